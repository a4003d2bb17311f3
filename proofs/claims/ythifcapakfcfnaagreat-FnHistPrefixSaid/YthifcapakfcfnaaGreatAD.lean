/- A part of the proof of the given row. Conditions: none. -/
import Derived.Laws.StructEq
import Derived.ChangeKeysEq
import Derived.Test.YthifcapakfcfnaaGreatAC
set_option linter.unusedVariables false
set_option linter.unusedSimpArgs false
set_option maxRecDepth 100000
section
namespace Go.Lf
open Go Sm
def Aa {α:Type} (f:α→List Value) (l:List α):List Value:=(l.map f).flatten
@[reducible] def eRg (x:Rg):List Value:=[I x.kind,I x.AR,I x.top,I x.Al,I x.AH]
@[reducible] def eOp (o:Sm.Op):List Value:=[I o.kind,I o.a,I o.b,I o.c,I o.f,I o.v,I o.sh.refs,I o.sh.nums]
def Ac (t:Thr) (rv:Value):List Value:=[rv,I t.next,I t.BB,I t.pc,I t.h,I t.g,I t.k,I t.u,I t.v,I t.sh.refs,I t.sh.nums,I t.src,I t.dst,I t.size,I t.i,I t.word,I t.ret]
@[reducible] def eEv (e:Ev):List Value:=[I e.thread,I e.next,I e.ans,I e.code]
def Fz (R:RM) (v:Value) (w n:Nat) (cells:List Value):Prop:=
 (v = SN∧n = 0∧cells = [])∨∃b o cap t cs,v = .slice (some ⟨b,o,none⟩) n cap∧R b = some (C t cs)∧o + n * w≤cs.length∧(cs.drop o).take (n * w) = cells∧n≤cap
theorem Fz.le {R R' : RM} {v:Value} {w n:Nat} {cells:List Value} (h:R.le R') (H:Fz R v w n cells):Fz R' v w n cells:=by
 rcases H with H | ⟨b,o,cap,t,cs,h1,h2,h3,h4,h5⟩
 ·exact .inl H
 ·exact .inr ⟨b,o,cap,t,cs,h1,h _ _ h2,h3,h4,h5⟩
def B9 (R:RM) (v:Value) (l:List Int):Prop:=Fz R v 1 l.length (l.map I)
def Ops (R:RM) (v:Value) (l:List Sm.Op):Prop:=Fz R v 8 l.length (Aa eOp l)
def Cy (R:RM) (v:Value) (l:List (List Sm.Op)):Prop:=∃vs,Fz R v 1 l.length vs∧vs.length = l.length∧∀i (h:i < l.length),∃x,vs[i]? = some x∧Ops R x (l[i])
structure Img where
 AE:Value
 wb:Nat
 wc:Nat
 wsp:List Value
 tb:Nat
 tc:Nat
 tsp:List Value
 mb:Nat
 mc:Nat
 msp:List Value
 Ai:Value
 want:Value
 AB:Value
 old:Value
 AI:Value
 hb:Nat
 hc:Nat
 hsp:List Value
 rv:List Value
 AD:Value
 ev:Option (Nat × Nat)
 esp:List Value
def evV (S:Sim) (g:Img):Value:=match g.ev with | none=>SN | some (b,c)=>S0 b S.ev.length c
def evD (S:Sim) (g:Img):Chs:=match g.ev with | none=>[] | some (b,_)=>[(b,C DA (Aa eEv S.ev ++ g.esp))]
def Ar (x:Col) (sv:Value):List Value:=[I x.pc,.bool x.Ai,I x.want,sv,I x.r,I x.p,I x.i,I x.sh.refs,I x.sh.nums,I x.v,I x.f,I x.src,I x.dst,I x.size,I x.word]
def Bx (S:Sim) (g:Img):List Value:=
 I S.c.A6 :: I S.c.AB :: I S.c.AF :: g.AE :: .slice (some ⟨g.wb,0,none⟩) S.A5.length g.wc :: .slice (some ⟨g.tb,0,none⟩) S.A0.length g.tc :: .slice (some ⟨g.mb,0,none⟩) S.AJ.length g.mc ::
 I S.AW :: .bool S.stop :: .bool S.full :: g.Ai :: g.want :: g.AB :: g.old :: g.AI :: I S.B8 :: I S.Be :: .slice (some ⟨g.hb,0,none⟩) S.th.length g.hc ::
 I S.col.pc :: .bool S.col.Ai :: I S.col.want :: g.AD :: I S.col.r :: I S.col.p :: I S.col.i :: I S.col.sh.refs :: I S.col.sh.nums :: I S.col.v :: I S.col.f :: I S.col.src :: I S.col.dst :: I S.col.size :: I S.col.word ::
 evV S g :: .bool S.used :: []
def Db (l:List Thr) (rv:List Value):List Value:=(List.zipWith Ac l rv).flatten
def AU (p:Nat) (S:Sim) (g:Img):Chs:=
 (p,C BZ (Bx S g)) :: (g.wb,C AZ (S.A5.map I ++ g.wsp)) :: (g.tb,C AK (Aa eRg S.A0 ++ g.tsp)) :: (g.mb,C Au (S.AJ.map Value.bool ++ g.msp)) :: (g.hb,C AS (Db S.th g.rv ++ g.hsp)) :: evD S g
structure Ok (R:RM) (S:Sim) (g:Img):Prop where
 AE:Cy R g.AE S.AE
 old:B9 R g.old S.old
 AI:B9 R g.AI S.AI
 AD:B9 R g.AD S.col.AD
 rvl:g.rv.length = S.th.length
 rv:∀i (h:i < S.th.length) (h' : i < g.rv.length),B9 R (g.rv[i]) (S.th[i]).AA
 ev0:g.ev = none→S.ev = []
 ev1:∀b c,g.ev = some (b,c)→S.ev.length≤c∧g.esp.length = (c - S.ev.length) * 4
 wl:S.A5.length≤1000
 tl:S.A0.length≤1000
 ml:S.AJ.length≤1000
 hl:S.th.length≤1000
 fl:flat g.Ai = true∧flat g.want = true∧flat g.AB = true
 wk:S.A5.length≤g.wc
 tk:S.A0.length≤g.tc
 mk_:S.AJ.length≤g.mc
theorem Ok.le {R R' : RM} {S:Sim} {g:Img} (h:R.le R') (H:Ok R S g):Ok R' S g:=by
 refine⟨?_,H.old.le h,H.AI.le h,H.AD.le h,H.rvl,λi h1 h2=>(H.rv i h1 h2).le h,H.ev0,H.ev1,H.wl,H.tl,H.ml,H.hl,H.fl,H.wk,H.tk,H.mk_⟩;obtain⟨vs,h1,h2,h3⟩:=H.AE;exact⟨vs,h1.le h,h2,λi hi=>by obtain⟨x,hx,ho⟩:=h3 i hi;exact⟨x,hx,ho.le h⟩⟩
def CK (p:Nat) (S' : Sim) (r:Value→Prop) (v:Value) (R' : RM) (A:Chs):Prop:=r v∧∃g',A = AU p S' g'∧Ok R' S' g'
instance (priority:=low) At.appr (A F:Chs) (b:Nat) (o:Obj) [t:At F b o]:At (A ++ F) b o:=⟨UQ _ t.m⟩
instance (priority:=low) Up.appr (A D:Chs) (b:Nat) (o o' : Obj) (D' : Chs) [t:Up D b o o' D']:Up (A ++ D) b o o' (A ++ D'):=
 ⟨UQ _ t.m,UQ _ t.m',by simp[t.f],λb' x h=>by
  rcases U7.1 h with h | h
  ·exact .inr (UH _ h)
  ·rcases t.u b' x h with h | h
   ·exact .inl h
   ·exact .inr (UQ _ h)⟩
instance (priority:=low) Tk.appr (A D:Chs) (b:Nat) (o:Obj) (E:Chs) [t:Tk D b o E]:Tk (A ++ D) b o (A ++ E):=
 ⟨(t.p.append_left A).trans U9⟩
instance Sp.pre (A F:Chs):Sp (A ++ F) A F:=⟨UV _⟩
instance (priority:=low) Sp.skip (c:Nat × Obj) (D A F:Chs) [s:Sp D A F]:Sp (c :: D) A (c :: F):=⟨(s.p.cons c).trans (U9.symm)⟩
instance (priority:=low) Sp.self (A:Chs):Sp A A []:=⟨σ⟩
instance (priority:=low) Sf.appl (X G F:Chs) [s:Sf G F]:Sf (X ++ G) F:=⟨by obtain⟨Y,h⟩:=s.p;exact⟨X ++ Y,by rw[h,Tu]⟩⟩
section sim
variable (p:Nat) (S:Sim) (g:Img)
instance At.sim:At (AU p S g) p (C BZ (Bx S g)):=⟨by simp[AU]⟩
instance At.A5:At (AU p S g) g.wb (C AZ (S.A5.map I ++ g.wsp)):=⟨by simp[AU]⟩
instance At.A0:At (AU p S g) g.tb (C AK (Aa eRg S.A0 ++ g.tsp)):=⟨by simp[AU]⟩
instance At.AJ:At (AU p S g) g.mb (C Au (S.AJ.map Value.bool ++ g.msp)):=⟨by simp[AU]⟩
instance At.ths:At (AU p S g) g.hb (C AS (Db S.th g.rv ++ g.hsp)):=⟨by simp[AU]⟩
end sim
class Fd (D:Chs) (p:Nat) (S:outParam Sim) (g:outParam Img) (G:outParam Chs):Prop where
 ex:D.Perm (AU p S g ++ G)
instance Fd.front (p:Nat) (S:Sim) (g:Img) (F:Chs):Fd (AU p S g ++ F) p S g F:=⟨UV _⟩
instance Fd.self (p:Nat) (S:Sim) (g:Img):Fd (AU p S g) p S g []:=⟨σ⟩
instance (priority:=low) Fd.cons (c:Nat × Obj) (D G:Chs) (p:Nat) (S:Sim) (g:Img) [w:Fd D p S g G]:Fd (c :: D) p S g (c :: G):=⟨(w.ex.cons c).trans U9.symm⟩
instance (priority:=low) Fd.appr (A D G:Chs) (p:Nat) (S:Sim) (g:Img) [w:Fd D p S g G]:Fd (A ++ D) p S g (A ++ G):=
 ⟨(w.ex.append_left A).trans (by rw[← Tu,← Tu];exact V5 G Uy)⟩
theorem EK {cs:List Value} {o:Nat} {v:Value} (h:o < cs.length):lay cs o [v] = cs.set o v:=by
 simp only[lay,U0];rw[List.set_eq_take_append_cons_drop,if_pos h];simp
section stores
variable {R:RM} {D G:Chs} {p:Nat} {S:Sim} {g:Img} {m:M}
theorem jss {o n:Nat} {x:Value} (S' : Sim) (g' : Img) [w:Fd D p S g G] (hn:(cl x).length = n) (hf:Bn (cl x) = true) (ho:o + n≤35) (hc:lay (Bx S g) o (cl x) = Bx S' g')
  (hb:(AU p S g).tail = (AU p S' g').tail) (H:J R (AU p S' g' ++ G) m):J R D (ST n (.pointer (some ⟨p,o,none⟩)) x m):=by
 intro h hs;refine js hn hf ho hc H h (hs.perm w.ex) (u:=?_);have e1:AU p S g = (p,C BZ (Bx S g)) :: (AU p S' g').tail:=by rw[← hb];rfl
 have e2:AU p S' g' = (p,C BZ (Bx S' g')) :: (AU p S' g').tail:=rfl;rw[e1,e2];exact inferInstance
theorem jsw {i:Nat} {v:Int} (S' : Sim) [w:Fd D p S g G] (hi:i < S.A5.length) (hS:S' = { S with A5:=S.A5.set i v }) (H:J R (AU p S' g ++ G) m):J R D (ST 1 (.pointer (some ⟨g.wb,i,none⟩)) (I v) m):=by
 subst hS;intro h hs;refine js (cs':=(S.A5.set i v).map I ++ g.wsp) rfl rfl (by simp;omega) ?_ H h (hs.perm w.ex) (u:=?_)
 ·rw[show cl (I v) = [I v] from rfl,EK (by simp;omega),List.set_append_left _ _ (by simpa using hi),VD]
 ·have e1:Bx { S with A5:=S.A5.set i v } g = Bx S g:=by simp[Bx,evV]
  unfold AU evD;rw[e1];exact inferInstance
theorem Ae {S' : Sim} {R0:RM} {F:Chs} {r:Value→Prop} {v:Value} [w:Fd D p S g G] (h1:R0.le R) (h2:r v) (hS:S = S') (ok:Ok R S' g) [x:Sf G F]:J R D (F8 R0 F (CK p S' r) v):=by
 subst hS;intro h hs;exact BC h1 ⟨h2,g,rfl,ok⟩ h (hs.perm w.ex)
end stores
theorem Fh {ws:List Int} {sp:List Value} {i:Nat} (h:i < ws.length):(ws.map I ++ sp)[i]? = some (I (ws[i])):=by
 rw[Um (by simpa using h)];simp[h]
theorem GS {ws:List Bool} {sp:List Value} {i:Nat} (h:i < ws.length):(ws.map Value.bool ++ sp)[i]? = some (.bool (ws[i])):=by
 rw[Um (by simpa using h)];simp[h]
theorem Ad {α:Type} {l:List α} {i:Int} {v:α} (h:idx l i = some v):0≤i∧i < l.length∧∃hi:i.toNat < l.length,l[i.toNat] = v:=by
 unfold idx at h;split at h
 ·obtain⟨hi,he⟩:=UF.1 h;exact⟨‹_›,ω,hi,he⟩
 ·cases h
theorem BT {w:Nat}:∀{ls:List (List Value)},(∀x∈ls,x.length = w)→ls.flatten.length = ls.length * w:=by
 intro ls;induction ls with
 | nil=>intro _;simp
 | cons a r ih=>
  intro h;rw[Un,Tn,ih λx hx=>h x (by simp[hx]),h a σ,U4,Nat.add_mul];omega
theorem Er {w:Nat} {sp:List Value}:∀{ls:List (List Value)} (i:Nat) (hi:i < ls.length),(∀x∈ls,x.length = w)→((ls.flatten ++ sp).drop (i * w)).take w = ls[i]:=by
 intro ls;induction ls with
 | nil=>intro i hi;simp at hi
 | cons a r ih=>
  intro i hi h;have ha:a.length = w:=h a σ;cases i with
  | zero=>
   rw[V4,Ur,Un,Tu,UW ω,← ha,List.take_length];rfl
  | succ i=>
   rw[Un,Tu,Nat.add_mul,Nat.one_mul,List.drop_append,Tx (by rw[ha];exact Nat.le_add_left _ _),zl,ha,Uz];simpa using ih i (by simpa using hi) λx hx=>h x (by simp[hx])
theorem F5 {a b l:List Value} {o:Nat} (h:a.length≤o):lay (a ++ b) o l = a ++ lay b (o - a.length) l:=by
 simp only[lay];rw[List.take_append,UG h,List.drop_append,Tx ω,zl,show o + l.length - a.length = o - a.length + l.length from ω];simp[Tu]
theorem N4 {a b l:List Value} (h:l.length = a.length):lay (a ++ b) 0 l = l ++ b:=by
 simp only[lay,List.take_zero,zl,Tw,h,List.drop_left]
theorem Fe {w:Nat} {sp x:List Value} (hx:x.length = w):∀{ls:List (List Value)} (i:Nat),i < ls.length→(∀x∈ls,x.length = w)→lay (ls.flatten ++ sp) (i * w) x = (ls.set i x).flatten ++ sp:=by
 intro ls;induction ls with
 | nil=>intro i hi;simp at hi
 | cons a r ih=>
  intro i hi h;have ha:a.length = w:=h a σ;cases i with
  | zero=>rw[V4,Un,Tu,N4 ω];simp
  | succ i=>
   rw[Un,Tu,F5 (by rw[ha,Nat.add_mul,Nat.one_mul];exact Nat.le_add_left _ _),ha,Nat.add_mul,Nat.one_mul,Uz,ih i (by simpa using hi) λx hx=>h x (by simp[hx])];simp
theorem On (t:Thr) (v:Value):(Ac t v).length = 17:=rfl
theorem Jn {l:List Thr} {rv:List Value}:∀x∈List.zipWith Ac l rv,x.length = 17:=by
 intro x hx;obtain⟨n,hn,rfl⟩:=UE hx;rw[List.getElem_zipWith];rfl
theorem NI {l:List Thr} {rv sp:List Value} {i:Nat} (h:i < l.length) (h' : i < rv.length):((Db l rv ++ sp).drop (i * 17)).take 17 = Ac (l[i]) (rv[i]):=by
 rw[Db,Er i (by simp;omega) Jn,List.getElem_zipWith]
theorem Qp {l:List Thr} {rv sp:List Value} {i:Nat} {t:Thr} {v:Value} (h:i < l.length) (h' : i < rv.length):lay (Db l rv ++ sp) (i * 17) (Ac t v) = Db (l.set i t) (rv.set i v) ++ sp:=by
 rw[Db,Fe (On t v) i (by simp;omega) Jn,Db];congr 2;apply List.ext_getElem?;intro n;simp only[List.getElem?_set,List.getElem?_zipWith,List.length_zipWith];by_cases hn:i = n
 ·subst hn;rw[if_pos rfl,if_pos ω,if_pos rfl,if_pos h,if_pos rfl,if_pos h']
 ·rw[if_neg hn,if_neg hn,if_neg hn]
theorem Kj {l:List Thr} {rv:List Value} (h:rv.length = l.length):(Db l rv).length = l.length * 17:=by
 rw[Db,BT Jn];simp[h]
theorem GU {α:Type} {f:α→List Value} {w:Nat} (hf:∀x,(f x).length = w) {l:List α}:∀x∈l.map f,x.length = w:=by
 intro x hx;obtain⟨a,_,rfl⟩:=UK.1 hx;exact hf a
theorem Cs {α:Type} {f:α→List Value} {w:Nat} (hf:∀x,(f x).length = w) {l:List α} {sp:List Value} {i:Nat} (h:i < l.length):((Aa f l ++ sp).drop (i * w)).take w = f (l[i]):=by
 rw[Aa,Er i (by simpa using h) (GU hf)];simp
theorem J7 {α:Type} {f:α→List Value} {w:Nat} (hf:∀x,(f x).length = w) {l:List α} {sp:List Value} {i:Nat} {x:α} (h:i < l.length):lay (Aa f l ++ sp) (i * w) (f x) = Aa f (l.set i x) ++ sp:=by
 rw[Aa,Fe (hf x) i (by simpa using h) (GU hf),Aa,VD]
theorem DO {α:Type} {f:α→List Value} {w:Nat} (hf:∀x,(f x).length = w) (l:List α):(Aa f l).length = l.length * w:=by
 rw[Aa,BT (GU hf)];simp
section AB
variable {R:RM} {D G:Chs} {p:Nat} {S:Sim} {g:Img} {m:M} {k:Value→M}
theorem Qi (S:Sim) (g:Img) (th:List Thr) (rv:List Value) (h:th.length = S.th.length):Bx { S with th:=th } { g with rv:=rv } = Bx S g:=by simp[Bx,evV,h]
theorem Qh {i:Nat} [w:Fd D p S g G] (hi:i < S.th.length) (hr:g.rv.length = S.th.length) (H:J R D (k (.agg (Ac (S.th[i]) (g.rv[i]'(ω))).toArray))):J R D (LA 17 (.pointer (some ⟨g.hb,0 + i * 17,none⟩)) k):=by
 intro h hs;rw[Tw];refine jla ?_ (NI hi ω) (λh' hs'=>H h' (hs'.perm w.ex.symm)) h (hs.perm w.ex);rw[Tn,Kj hr];omega
theorem jst {i:Nat} {t:Thr} {v:Value} (S' : Sim) (g' : Img) [w:Fd D p S g G] (hi:i < S.th.length) (hr:g.rv.length = S.th.length) (hv:flat v = true) (hS:S' = { S with th:=S.th.set i t }) (hg:g' = { g with rv:=g.rv.set i v })
  (H:J R (AU p S' g' ++ G) m):J R D (ST 17 (.pointer (some ⟨g.hb,0 + i * 17,none⟩)) (.agg (Ac t v).toArray) m):=by
 subst hS hg;intro h hs;rw[Tw];refine js rfl ?_ ?_ (Qp hi ω) H h (hs.perm w.ex) (u:=?_)
 ·show (flat v && true) = true;rw[hv];rfl
 ·show i * 17 + 17≤_;rw[Tn,Kj hr];omega
 ·have e1:=Qi S g (S.th.set i t) (g.rv.set i v) σ;unfold AU evD;rw[e1];exact inferInstance
end AB
theorem Ok.setT {R:RM} {S:Sim} {g:Img} (H:Ok R S g) {i:Nat} {t:Thr} {v:Value} (hv:B9 R v t.AA):Ok R { S with th:=S.th.set i t } { g with rv:=g.rv.set i v }:=by
 refine⟨H.AE,H.old,H.AI,H.AD,by simp[H.rvl],λj h1 h2=>?_,H.ev0,H.ev1,H.wl,H.tl,H.ml,by simpa using H.hl,H.fl,H.wk,H.tk,H.mk_⟩;simp only[U3] at h1 h2;simp only[List.getElem_set];by_cases hij:i = j
 ·simp only[if_pos hij];exact hv
 ·simp only[if_neg hij];exact H.rv j h1 h2
theorem St.le {h:CZ} {R R' : RM} {D:Chs} (hr:R.le R') (hs:St h R' D):St h R D:=by
 refine⟨λb o hb=>hs.rd b o (hr b o hb),λb o hm=>⟨(hs.at_ b o hm).1,?_⟩,hs.nd⟩;cases hb:R b with
 | none=>rfl
 | some x=>have:=hr b x hb;rw[(hs.at_ b o hm).2] at this;cases this
def Pu (f:Nat) (args:List Value) (v:Value):Prop:=∀R,Fn P f args R [] λv' _ _=>v' = v
theorem jp {f:Nat} {args:List Value} {v:Value} {R:RM} {D:Chs} {k:Value→M} (hF:Pu f args v) (H:J R D (k v)):J R D (CA P f args k):=by
 intro h hs;refine F0 ?_ (hF R D h hs);rintro v' h' ⟨R',A',h1,h2,h3⟩;subst h3;exact H h' (h2.drop.le h1)
section lit
variable {R:RM} {D:Chs} {k:Value→M} {a b:M} {x y:Value}
theorem Ea (H:J R D (k x)):J R D (PK (.bool true) x y k):=H
theorem EW (H:J R D (k y)):J R D (PK (.bool false) x y k):=H
theorem jtt (H:J R D a):J R D (GT (.bool true) true a b):=H
theorem jft (H:J R D b):J R D (GT (.bool false) true a b):=H
theorem jtf (H:J R D b):J R D (GT (.bool true) false a b):=H
theorem jff (H:J R D a):J R D (GT (.bool false) false a b):=H
end lit
theorem CX (a:Int) (h:AQ a≤9223372036854775807):Pu Fk [I a] (I (AQ a)):=by
 intro R;refine KB λF=>?_
 refine z_1 ?_;refine jlt (jif (λhc=>?_) (λhc=>?_))
 ·refine BC (A:=[]) (RM.le.refl R) ?_;have:=z_f hc;rw[AQ,if_pos this]
 ·have:=z_g hc;have e:a.tdiv 16 = a / 16:=Uw ω;refine Pk δ (by rw[e];rw[AQ,if_neg this] at h;constructor<;>omega) (BC (A:=[]) (RM.le.refl R) ?_);rw[AQ,if_neg this,e]
theorem KH (r:Int) (R:RM) (F:Chs):J R ([] ++ F) (Dk (I r) (F8 R F λv' _ _=>v' = I (AG r))):=by
 unfold Dk;refine CQ (jlt (OF (λhc=>jge (Bq λe he=>?_)) (λhc=>Bq λe he=>?_)))<;>
  simp only[List.map,zj,z_t] at he<;>simp only[he,hc,cond_true,cond_false]
 ·refine jif (λhd=>?_) (λhd=>?_)
  ·refine BC (A:=[]) (RM.le.refl R) ?_;have:=z_f hd;rw[AG,if_pos (.inr this)]
  ·have h1:=z_g hd;have h2:=z_g hc;refine FW (by constructor<;>omega) (BC (A:=[]) (RM.le.refl R) ?_);rw[AG,if_neg ω]
 ·refine Ea (EH (BC (A:=[]) (RM.le.refl R) ?_));have:=z_f hc;rw[AG,if_pos (.inl this)]
theorem Ax (r:Int):Pu Et [I r] (I (AG r)):=λR=>Hj λF=>KH r R F
@[reducible] def eSh (s:Shp):Value:=.agg #[I s.refs,I s.nums]
theorem Na (s:Shp) (R:RM) (F:Chs):J R ([] ++ F) (Ej (eSh s) (F8 R F λv' _ _=>v' = .bool (Ao s))):=by
 unfold Ej;refine ja λb=>?_
 have fin:∀c,c = Ao s→J R ((b,C F6 [I s.refs,I s.nums]) :: ([] ++ F)) (F8 R F (λv' _ _=>v' = Value.bool (Ao s)) (.bool c)):=λc hc=>BC (A:=[]) (RM.le.refl R) (by rw[hc])
 refine CQ (jl rfl (jge (Fj (λh1=>jl rfl (jle (Bq λe he=>?_))) (λh1=>Bq λe he=>?_))))<;>
  simp only[List.map,zj,z_t,h1] at he<;>simp only[he]
 ·refine CQ (Ea (Fj (λh2=>jl rfl (jge (Bq λe he=>?_))) (λh2=>Bq λe he=>?_)))<;>
   simp only[List.map,zj,z_t,h2] at he<;>simp only[he]
  ·refine CQ (Ea (Fj (λh3=>jl rfl (jle (Bq λe he=>?_))) (λh3=>Bq λe he=>?_)))<;>
    simp only[List.map,zj,z_t,h3] at he<;>simp only[he]
   ·refine Ea (fin _ ?_);simp at h1 h2 h3;simp[Ao,h1,h2,h3]
   ·refine EW (fin _ ?_);simp at h1 h2 h3;simp[Ao,h1,h2];omega
  ·refine CQ (EW (jft (Bq λe he=>?_)));refine z_V ?_;refine EW (fin _ ?_);simp at h1 h2;simp[Ao,h1];omega
 ·refine CQ (EW (jft (Bq λe he=>?_)));refine z_V ?_;refine CQ (EW (jft (Bq λe he=>?_)));refine z_V ?_;refine EW (fin _ ?_);simp at h1;simp[Ao];omega
theorem GK (s:Shp):Pu Gn [eSh s] (.bool (Ao s)):=λR=>Kt λF=>Na s R F
theorem Eg {s:Shp}:Ao s = true↔0≤s.refs∧s.refs≤4∧0≤s.nums∧s.nums≤4:=by simp[Ao,and_assoc]
theorem DU (s:Shp):Pu FN [eSh s] (I (Ab s)):=by
 intro R;refine J3 λF=>?_
 refine z_1 ?_;refine ja λb=>jla (l:=[I s.refs,I s.nums]) σ rfl (jp (GK s) (jif (λh=>?_) (λh=>?_)))
 ·refine BC (A:=[]) (RM.le.refl _) ?_;simp only[UC] at h;simp[Ab,h]
 ·simp only[UR] at h;obtain⟨h0,h1,h2,h3⟩:=Eg.1 h;refine jl rfl (FW ⟨ω,ω⟩ (jl rfl (jad (BC (A:=[]) (RM.le.refl _) ?_))));simp[Ab,h]
theorem Bm (s:Shp):Pu FJ [eSh s] (I (AC s)):=by
 intro R;refine Ij λF=>?_
 refine z_1 ?_;refine ja λb=>jla (l:=[I s.refs,I s.nums]) σ rfl (jp (GK s) (jif (λh=>?_) (λh=>?_)))
 ·refine BC (A:=[]) (RM.le.refl _) ?_;simp only[UC] at h;simp[AC,h]
 ·simp only[UR] at h;obtain⟨h0,h1,h2,h3⟩:=Eg.1 h;refine jl rfl (jad (jl rfl (jad (BC (A:=[]) (RM.le.refl _) ?_))));simp[AC,h]
theorem CN {R:RM} {c:Nat × Obj} {D:Chs} {m:M} (H:J R D m):J R (c :: D) m:=λh hs=>H h (St.drop (A:=[c]) hs)
theorem Dd (w:Int):Pu Gm [I w] (.tuple #[eSh (AN w).1,.bool (AN w).2]):=by
 intro R;refine KN λF=>?_
 refine z_1 ?_;refine ja λb=>(CQ (CQ ?_))
 refine jlp (λn vs R' D'=>R' = R∧D' = (b,C F6 [I 0,I 0]) :: ([] ++ F)∧∃r:Nat,r≤5∧vs = [I w,Pt b,I r]∧n = 5 - r∧∀r' n' : Nat,r' < r→n'≤4→(16 * r' + n' : Int)≠w)
  ⟨rfl,rfl,0,ω,rfl,rfl,λr' n' h=>ω⟩ ?_
 rintro n e R' D' K ⟨rfl,rfl,r,hr,he,hn,Bf⟩ hK;refine z_V ?_;refine jle (jif (λhc=>?_) (λhc=>?_))
 ·have hc:=z_f hc;refine CQ (CQ (CQ ?_));refine jlp (λm vs R2 D'=>R2 = R'∧D' = (b,C F6 [I 0,I 0]) :: ([] ++ F)∧∃k:Nat,k≤5∧vs = [I w,Pt b,I r,I k]∧m = 5 - k∧∀n' : Nat,n' < k→(16 * r + n' : Int)≠w)
   ⟨rfl,rfl,0,ω,rfl,rfl,λn' h=>ω⟩ ?_
  rintro m e R' D' K' ⟨rfl,rfl,k,hk,he,hm,hall'⟩ hK';refine z_V ?_;refine jle (jif (λhd=>?_) (λhd=>?_))
  ·have hd:=z_f hd;refine jbd rfl rfl (ja λb'=>(js (cs':=[I r,I k]) rfl rfl σ rfl (jla (l:=[I r,I k]) σ rfl (jp (DU ⟨r,k⟩) (jeq ?_)))));have hok:Ao ⟨r,k⟩ = true:=Eg.2 ⟨by simp only[];omega,by simp only[];omega,by simp only[];omega,by simp only[];omega⟩;have hsw:Ab ⟨r,k⟩ = 16 * r + k:=by simp[Ab,hok]
   refine jif (λhw=>?_) (λhw=>?_)
   ·have hw:(16 * r + k:Int) = w:=by rw[← hsw];exact eq_of_beq hw
    refine jla σ rfl (js (cs':=[I r,I k]) rfl rfl σ rfl (jla (l:=[I r,I k]) σ rfl (BC (A:=[]) (RM.le.refl _) ?_)));have e1:w / 16 = r:=ω
    have e2:w % 16 = k:=ω
    have:AN w = (⟨r,k⟩,true):=by
     rw[AN,if_pos ω,e1,e2]
    rw[this]
   ·have hw:(16 * r + k:Int)≠w:=by rw[← hsw];intro hh;rw[hh] at hw;simp at hw
    refine jad (CN (hK' (5 - (k + 1)) _ _ _ ω ⟨rfl,rfl,k + 1,ω,σ,rfl,λn' h=>?_⟩));by_cases h' : n' = k
    ·subst h';exact hw
    ·exact hall' n' ω
  ·have hd:=z_g hd;refine Bq λe he=>?_
   refine z_V ?_;refine Bq λe he=>?_
   refine z_V ?_;refine Bq λe he=>?_
   refine z_V ?_;refine jad (hK (5 - (r + 1)) _ _ _ ω ⟨rfl,rfl,r + 1,ω,σ,rfl,λr' n' h h2=>?_⟩);by_cases h' : r' = r
   ·subst h';exact hall' n' ω
   ·exact Bf r' n' ω h2
 ·have hc:=z_g hc;refine Bq λe he=>?_
  refine z_V ?_;refine Bq λe he=>?_
  refine z_V ?_;refine jbd rfl rfl (js (cs':=[I 0,I 0]) rfl rfl σ rfl (jla σ rfl (BC (A:=[]) (RM.le.refl _) ?_)));have:AN w = (O7,false):=by
   rw[AN,if_neg];intro hh;exact Bf (w / 16).toNat (w % 16).toNat ω ω ω
  rw[this];rfl
theorem CI {p:Nat} {S S' : Sim} {g:Img} {a v:Int} {R:RM} (hok:Ok R S g) (hS:S.read a = some (v,S')):Fn P I7 [Pt p,I a] R (AU p S g) (CK p S' (· = I v)):=by
 refine Mi λF=>?_
 refine z_2 ?_;simp only[Sim.read] at hS;split at hS
 ·rename_i v' hv;simp only[Tq,Prod.mk.injEq] at hS;obtain⟨rfl,rfl⟩:=hS;obtain⟨h0,h1,h2,h3⟩:=Ad hv;refine jss { S with used:=true } g rfl rfl δ τ τ (jl rfl (jia h0 h1 (jl (by rw[Tw,UY];exact Fh h2) (Ae (RM.le.refl R) (by rw[← h3]) rfl { hok with }))))
 ·cases hS
theorem Cr {p:Nat} {S S' : Sim} {g:Img} {a v:Int} {R:RM} (hok:Ok R S g) (hS:S.write a v = some S'):Fn P Gd [Pt p,I a,I v] R (AU p S g) (CK p S' λ_=>True):=by
 refine KS λF=>?_
 refine z_3 ?_;simp only[Sim.write] at hS;split at hS
 ·rename_i hv;simp only[Tq] at hS;subst hS;refine jss { S with used:=true } g rfl rfl δ τ τ (jl rfl (jia hv.1 hv.2 ?_));rw[Tw,UY];refine jsw (p:=p) { S with used:=true,A5:=AM S.A5 a v } (by show a.toNat < S.A5.length;omega) τ (Ae (RM.le.refl R) trivial rfl { hok with wl:=by simpa [AM] using hok.wl,wk:=by simpa [AM] using hok.wk })
 ·cases hS
theorem Hk {p:Nat} {S:Sim} {g:Img} {a:Int} {b:Bool} {R:RM} (hok:Ok R S g) (hS:S.from_ a = some b):Fn P FT [Pt p,I a] R (AU p S g) (CK p S (· = .bool b)):=by
 refine Mn λF=>?_
 refine z_2 ?_;simp only[Sim.from_] at hS;refine CQ (CQ (jne (Fj (λh=>?_) (λh=>?_))))
 ·have ha:a≠0:=by simpa using h
  rw[if_neg ha] at hS;split at hS
  ·rename_i x hx;obtain⟨h0,h1,h2,h3⟩:=Ad hx;have hl:=hok.tl;cases hS;refine jl rfl (Bq λe he=>?_);simp only[List.map,zj,z_t,h] at he;simp only[he];refine jtt (jp (CX a ω) (jia h0 h1 (jl (v:=I x.kind) ?_ (jeq (Ea (Aq (jl rfl jev) (Bq λe he=>?_)))))))
   ·have:=Cs (f:=eRg) (w:=5) (λ_=>rfl) (sp:=g.tsp) h2;rw[h3] at this;have e2:=congrArg (λl=>l[0]?) this;simp only[Ub,UX] at e2;simpa using e2
   ·refine z_V ?_;exact Ae (RM.le.refl R) rfl rfl hok
  ·cases hS
 ·have ha:a = 0:=by simpa using h
  rw[if_pos ha] at hS;cases hS;refine Bq λe he=>?_
  simp only[List.map,zj,z_t,h] at he;simp only[he];refine jft (EW (Aq jev (Bq λe he=>?_)));refine z_V ?_;exact Ae (RM.le.refl R) rfl rfl hok
theorem Fz.reads {R:RM} {D:Chs} {v:Value} {w n:Nat} {cells:List Value} (H:Fz R v w n cells):∃a cap,v = .slice a n cap∧Ay R D a (n * w) cells:=by
 rcases H with ⟨h1,h2,h3⟩ | ⟨b,o,cap,t,cs,h1,h2,h3,h4,h5⟩
 ·subst h1 h2 h3;exact⟨none,0,rfl,by rw[V4];exact Ay.none_⟩
 ·exact⟨_,cap,h1,by rw[← h4];exact Ay.frozen h2 h3⟩
def QZ (l:List Int) (v:Value) (A:Chs):Prop:=∃b c sp,l.length≤c∧sp.length = c - l.length∧v = S0 b l.length c∧A = [(b,C AZ (l.map I ++ sp))]
theorem Br {v:Value} {l:List Int} {R:RM} (h:B9 R v l) (hl:l.length < 1000000):Fn P HZ [v] R [] (λv' _ A=>QZ l v' A):=by
 refine MM λF=>?_
 refine z_1 ?_;obtain⟨a,cap,rfl,hr⟩:=Fz.reads (D:=[]) h;refine jbs (cs:=[]) rfl rfl λb=>(Rj (new:=l.map I) ?_ δ ω (λ_=>rfl) (λh0=>?_) (λb' c hc=>?_))
 ·intro h' hs';exact hr h' (St.drop (by simpa using hs'))
 ·have hl0:l = []:=UU.1 h0;refine BC (RM.le.refl R) (A:=[(b,C AZ [])]) ⟨b,0,[],by simp[hl0],σ,by simp[hl0],by simp[hl0]⟩
 ·refine BC (RM.le.refl R) (A:=[(b',C AZ (l.map I ++ (List.replicate (c - l.length) (cl z3)).flatten))]) ⟨b',c,_,hc,?_,rfl,rfl⟩;rw[BT (w:=1) (by intro x hx;rw[(Ue.1 hx).2];rfl)];simp
theorem B7 {R:RM} {D E G:Chs} {m:M} (A:Chs) [s:Sp D A E] [x:Sf E G] (H:J R (A ++ G) m):J R D m:=by
 intro h hs;obtain⟨X,hX⟩:=x.p;have h1:=hs.perm s.p;subst hX;have:St h R (X ++ (A ++ G)):=h1.perm (by
  rw[← Tu,← Tu]
  exact V5 G Uy)
 exact H h this.drop
theorem Hi {α:Type} (f:α→List Value) (l:List α) (x:α):Aa f (l ++ [x]) = Aa f l ++ f x:=by simp[Aa]
theorem Aj {R:RM} {D D' : Chs} {m:M} (hp:D.Perm D') (H:J R D' m):J R D m:=λh hs=>H h (hs.perm hp)
theorem Qu {R:RM} {D G:Chs} {p b c:Nat} {S:Sim} {g:Img} {evs:List Ev} {sp:List Value} {m:M} [w:Fd D p S g G]
  (H:J R (AU p { S with ev:=evs } { g with ev:=some (b,c),esp:=sp } ++ G) m) :
  J R ((b,C DA (Aa eEv evs ++ sp)) :: D) (ST 1 (.pointer (some ⟨p,33,none⟩)) (S0 b evs.length c) m):=by
 refine Aj ((w.ex.cons _).trans U9.symm) (js (D':=(p,C BZ (Bx { S with ev:=evs } { g with ev:=some (b,c),esp:=sp })) :: ((g.wb,C AZ (S.A5.map I ++ g.wsp)) :: (g.tb,C AK (Aa eRg S.A0 ++ g.tsp)) :: (g.mb,C Au (S.AJ.map Value.bool ++ g.msp)) :: (g.hb,C AS (Db S.th g.rv ++ g.hsp)) :: evD S g ++ (b,C DA (Aa eEv evs ++ sp)) :: G)) rfl rfl (by simp[Bx]) rfl ?_ (u:=?_));rotate_left
 ·refine B7 [(p,C BZ (Bx { S with ev:=evs } { g with ev:=some (b,c),esp:=sp })),(g.wb,C AZ (S.A5.map I ++ g.wsp)),(g.tb,C AK (Aa eRg S.A0 ++ g.tsp)),(g.mb,C Au (S.AJ.map Value.bool ++ g.msp)),(g.hb,C AS (Db S.th g.rv ++ g.hsp)),(b,C DA (Aa eEv evs ++ sp))] (G:=G) (H)
 ·unfold AU;exact inferInstance
theorem Qy {R:RM} {D G:Chs} {p:Nat} {S:Sim} {g:Img} {e:Ev} {cx:Nat} {xa:Option Addr} {zs:List Value} {m:M} (hz:zs.length = 4) [w:Fd D p S g G] (hok:Ok R S g) (hl:S.ev.length < 1000000) (hx:Ay R D xa (1 * 4) (eEv e))
  (H:∀g',Ok R { S with ev:=S.ev ++ [e] } g'→J R (AU p { S with ev:=S.ev ++ [e] } g' ++ G) m) :
  J R D (AP DA 4 32 zs (evV S g) (.slice xa 1 cx) λx=>ST 1 (.pointer (some ⟨p,33,none⟩)) x m):=by
 have spl:∀c,(List.replicate (c - (S.ev.length + 1)) zs).flatten.length = (c - (S.ev.length + 1)) * 4:=λc=>by
  rw[BT (by intro x hx;rw[(Ue.1 hx).2,hz])];simp
 have okn:∀b c sp,S.ev.length + 1≤c→sp.length = (c - (S.ev.length + 1)) * 4→Ok R { S with ev:=S.ev ++ [e] } { g with ev:=some (b,c),esp:=sp }:=λb c sp h1 h2=>
  { hok with ev0:=(by intro h;cases h),ev1:=(by intro b' c' h;cases h;simp;exact⟨h1,h2⟩) }
 have nxt:∀b c,S.ev.length + 1≤c→J R ((b,C DA (Aa eEv S.ev ++ eEv e ++ (List.replicate (c - (S.ev.length + 1)) zs).flatten)) :: D) (ST 1 (.pointer (some ⟨p,33,none⟩)) (S0 b (S.ev.length + 1) c) m):=λb c hc=>by
  have:=Qu (D:=D) (H _ (okn b c _ hc (spl c)));rw[Hi] at this;simpa using this
 cases hg:g.ev with
 | none=>
  have h0:=hok.ev0 hg;simp only[evV,hg];refine jap hx (by rw[V4];exact Ay.none_) δ ω (λh=>ω) (λb c hc=>?_);have:=nxt b c (by rw[h0];simpa using hc);rw[h0] at this;simpa [Aa] using this
 | some bc=>
  obtain⟨b,c⟩:=bc;obtain⟨hn,he⟩:=hok.ev1 b c hg;have e1:AU p S g = (p,C BZ (Bx S g)) :: (g.wb,C AZ (S.A5.map I ++ g.wsp)) :: (g.tb,C AK (Aa eRg S.A0 ++ g.tsp)) :: (g.mb,C Au (S.AJ.map Value.bool ++ g.msp)) :: (g.hb,C AS (Db S.th g.rv ++ g.hsp)) :: (b,C DA (Aa eEv S.ev ++ g.esp)) :: []:=by
   simp[AU,evD,hg]
  have hsz:=DO (f:=eEv) (w:=4) (λ_=>rfl) S.ev;have hD:D.Perm ((b,C DA (Aa eEv S.ev ++ g.esp)) :: ((p,C BZ (Bx S g)) :: (g.wb,C AZ (S.A5.map I ++ g.wsp)) :: (g.tb,C AK (Aa eRg S.A0 ++ g.tsp)) :: (g.mb,C Au (S.AJ.map Value.bool ++ g.msp)) :: (g.hb,C AS (Db S.th g.rv ++ g.hsp)) :: G)):=by
   refine w.ex.trans ?_;rw[e1];simp only[zc,zl];exact (inferInstance:Tk _ b _ _).p
  simp only[evV,hg];refine PL (tk:=⟨hD⟩) hx ?_ hn rfl rfl δ ω (λhc=>?_) (λb' c' hc=>?_)
  ·rw[Tn,hsz,he,← Nat.add_mul];congr 1;omega
  ·have el:lay (Aa eEv S.ev ++ g.esp) (S.ev.length * 4) (eEv e) = Aa eEv (S.ev ++ [e]) ++ g.esp.drop 4:=by
    rw[F5 ω,hsz,Nat.sub_self,Hi,Tu];simp[lay]
   rw[el];have H':=H { g with esp:=g.esp.drop 4 } { hok with ev0:=(by intro h;exact absurd (hg.symm.trans h) σ),ev1:=(by
    intro b' c' h
    have h2:some (b,c) = some (b',c'):=hg.symm.trans h
    cases h2
    simp only[Tn,U0,Ud]
    omega) }
   have e2:Bx { S with ev:=S.ev ++ [e] } { g with esp:=g.esp.drop 4 } = (Bx S g).set 33 (S0 b (S.ev.length + 1) c):=by
    simp[Bx,evV,hg]
   have e3:AU p { S with ev:=S.ev ++ [e] } { g with esp:=g.esp.drop 4 } = (p,C BZ ((Bx S g).set 33 (S0 b (S.ev.length + 1) c))) :: (g.wb,C AZ (S.A5.map I ++ g.wsp)) :: (g.tb,C AK (Aa eRg S.A0 ++ g.tsp)) :: (g.mb,C Au (S.AJ.map Value.bool ++ g.msp)) :: (g.hb,C AS (Db S.th g.rv ++ g.hsp)) :: (b,C DA (Aa eEv (S.ev ++ [e]) ++ g.esp.drop 4)) :: []:=by
    rw[← e2];simp[AU,evD,hg]
   rw[e3] at H';refine js rfl rfl (by simp[Bx]) (EK (by simp[Bx])) (B7 _ H')
  ·have:=nxt b' c' hc;rw[UW ω,UG ω];exact this
theorem Fz.flat {R:RM} {v:Value} {w n:Nat} {cells:List Value} (H:Fz R v w n cells):flat v = true:=by
 rcases H with ⟨h1,_,_⟩ | ⟨b,o,cap,t,cs,h1,_⟩<;>subst h1<;>rfl
theorem Af {a b c:Int} (h:CC a b = some c):c = a + b∧inR (a + b):=by
 unfold CC at h;split at h
 ·cases h;exact⟨rfl,by assumption⟩
 ·cases h
theorem EU {S:Sim} (h:S.sz = true):S.ev.length < 1000000∧S.old.length < 1000000∧S.col.AD.length < 1000000∧S.AI.length < 1000000∧∀t∈S.th,t.AA.length < 1000000:=by
 simp only[Sim.sz,z_b,z_d,UB] at h;exact⟨h.1.1.1.1,h.1.1.1.2,h.1.1.2,h.1.2,h.2⟩
theorem CU {p:Nat} {S S' : Sim} {g:Img} {i ans code:Int} {R:RM} (hok:Ok R S g) (hS:S.event i ans code = some S') :
  Fn P Ga [Pt p,I i,I ans,I code] R (AU p S g) (CK p S' λ_=>True):=by
 refine KQ λF=>?_
 refine z_4 ?_;simp only[Sim.event] at hS;split at hS
 ·cases hS
 rename_i hsz;simp only[Bool.not_eq_true,UR] at hsz;have hsz:=EU hsz;split at hS
 ·rename_i t ht;obtain⟨h0,h1,h2,h3⟩:=Ad ht;split at hS
  ·rename_i n hn;obtain⟨rfl,hin⟩:=Af hn;cases hS;have hr:=hok.rvl;have h2' : i.toNat < g.rv.length:=ω
   have hv:=hok.rv i.toNat h2 h2';rw[h3] at hv;obtain⟨xa,cap,hve,-⟩:=Fz.reads (D:=[]) hv;rw[hve] at hv;refine jl rfl (jia h0 h1 (Qh (p:=p) h2 hr ?_));rw[h3,hve];refine ja λb=>(js rfl rfl σ rfl (jl rfl (jl rfl ?_)))
   refine jbd rfl rfl (jbs (cs:=eEv ⟨i,t.next,ans,code⟩) rfl rfl λb1=>(Aq (jl rfl jev) (Qy (p:=p) (e:=⟨i,t.next,ans,code⟩) rfl hok hsz.1 (Ay.held (t:=DA) (cs:=eEv ⟨i,t.next,ans,code⟩) (o:=0) (n:=1 * 4) (z_n 4)) λg' hok'=>?_)));have hr':=hok'.rvl;refine jl rfl (jl rfl (jl rfl (CF hin ?_)));refine jbd (cs:=Ac (thr0 t.AA (t.next + 1) 0) (.slice xa t.AA.length cap)) rfl rfl (jia h0 h1 (jst (p:=p) { S with ev:=S.ev ++ [⟨i,t.next,ans,code⟩],th:=AM S.th i (thr0 t.AA (t.next + 1) 0) } { g' with rv:=g'.rv.set i.toNat (.slice xa t.AA.length cap) } (by exact h2) hr' rfl τ τ ?_));exact Ae (RM.le.refl R) trivial rfl (hok'.setT hv)
  ·cases hS
 ·cases hS
theorem Oe {p:Nat} {S S' : Sim} {g:Img} {i:Int} {R:RM} (hok:Ok R S g) (hS:S.back i = some S') :
  Fn P IB [Pt p,I i] R (AU p S g) (CK p S' λ_=>True):=by
 refine Ly λF=>?_
 refine z_2 ?_;simp only[Sim.back] at hS;split at hS
 ·rename_i t ht;obtain⟨h0,h1,h2,h3⟩:=Ad ht;cases hS;have hr:=hok.rvl;have h2' : i.toNat < g.rv.length:=ω
  have hv:=hok.rv i.toNat h2 h2';rw[h3] at hv;obtain⟨xa,cap,hve,-⟩:=Fz.reads (D:=[]) hv;rw[hve] at hv;refine jl rfl (jia h0 h1 (Qh (p:=p) h2 hr ?_));rw[h3,hve];refine ja λb=>(js rfl rfl σ rfl (jl rfl (jl rfl (jl rfl (jbd (cs:=Ac (thr0 t.AA t.next 1) (.slice xa t.AA.length cap)) rfl rfl (jia h0 h1 (jst (p:=p) { S with th:=AM S.th i (thr0 t.AA t.next 1) } { g with rv:=g.rv.set i.toNat (.slice xa t.AA.length cap) } h2 hr rfl τ τ (jss { S with th:=AM S.th i (thr0 t.AA t.next 1),full:=true } { g with rv:=g.rv.set i.toNat (.slice xa t.AA.length cap) } rfl rfl δ τ τ (jss { S with th:=AM S.th i (thr0 t.AA t.next 1),full:=true,stop:=true } { g with rv:=g.rv.set i.toNat (.slice xa t.AA.length cap) } rfl rfl δ τ τ (Ae (RM.le.refl R) trivial rfl { hok.setT (t:=thr0 t.AA t.next 1) hv with }))))))))))
 ·cases hS
section rows
variable {R:RM} {D G:Chs} {p:Nat} {S:Sim} {g:Img} {m:M} {k:Value→M}
theorem M2 {i:Nat} [w:Fd D p S g G] (hi:i < S.A0.length) (H:J R D (k (.agg (eRg (S.A0[i])).toArray))):J R D (LA 5 (.pointer (some ⟨g.tb,0 + i * 5,none⟩)) k):=by
 intro h hs;rw[Tw];refine jla ?_ (Cs (w:=5) (λ_=>rfl) hi) (λh' hs'=>H h' (hs'.perm w.ex.symm)) h (hs.perm w.ex);rw[Tn,DO (w:=5) (λ_=>rfl)];omega
theorem Ng {i:Nat} {x:Rg} (S' : Sim) [w:Fd D p S g G] (hi:i < S.A0.length) (hS:S' = { S with A0:=S.A0.set i x }) (H:J R (AU p S' g ++ G) m):J R D (ST 5 (.pointer (some ⟨g.tb,0 + i * 5,none⟩)) (.agg (eRg x).toArray) m):=by
 subst hS;intro h hs;rw[Tw];refine js rfl rfl ?_ (J7 (f:=eRg) (λ_=>rfl) hi) H h (hs.perm w.ex) (u:=?_)
 ·show i * 5 + 5≤_;rw[Tn,DO (w:=5) (λ_=>rfl)];omega
 ·have e1:Bx { S with A0:=S.A0.set i x } g = Bx S g:=by simp[Bx,evV]
  unfold AU evD;rw[e1];exact inferInstance
end rows
theorem PA {p:Nat} {S S' : Sim} {g:Img} {a size:Int} {R:RM} (hok:Ok R S g) (hS:S.top a size = some S') :
  Fn P JL [Pt p,I a,I size] R (AU p S g) (CK p S' λ_=>True):=by
 refine OA λF=>?_
 refine z_3 ?_;simp only[Sim.top] at hS;split at hS
 ·rename_i x hx;obtain⟨h0,h1,h2,h3⟩:=Ad hx;have hl:=hok.tl;split at hS
  ·rename_i n hn;obtain⟨rfl,hin⟩:=Af hn;cases hS;refine jp (CX a ω) (jl rfl (jia h0 h1 (M2 (p:=p) h2 ?_)));rw[h3];refine ja λb=>(js (cs':=eRg x) rfl rfl σ rfl (CF hin (js (cs':=eRg { x with top:=a + size }) rfl rfl σ rfl (jl rfl (jla σ rfl (jia h0 h1 (Ng (p:=p) { S with A0:=AM S.A0 (AQ a) { x with top:=a + size } } h2 τ ?_)))))))
   exact Ae (RM.le.refl R) trivial rfl { hok with tl:=by simpa [AM] using hok.tl,tk:=by simpa [AM] using hok.tk }
  ·cases hS
 ·cases hS
theorem Qw {R:RM} {D E:Chs} {l:List Int} {v:Int} {b c cx:Nat} {sp:List Value} {xa:Option Addr} {k:Value→M} [tk:Tk D b (C AZ (l.map I ++ sp)) E] (hc:l.length≤c) (hsp:sp.length = c - l.length) (hl:l.length < 1000000) (hx:Ay R D xa (1 * 1) [I v])
  (H:∀b' c' sp',l.length + 1≤c'→sp'.length = c' - (l.length + 1)→J R ((b',C AZ ((l ++ [v]).map I ++ sp')) :: E) (k (.slice (some ⟨b',0,none⟩) (l.length + 1) c'))) :
  J R D (AP AZ 1 8 [I 0] (S0 b l.length c) (.slice xa 1 cx) k):=by
 refine PL hx (by simp;omega) hc rfl rfl δ ω (λh=>?_) (λb' c' h=>?_)
 ·have el:lay (l.map I ++ sp) (l.length * 1) [I v] = (l ++ [v]).map I ++ sp.drop 1:=by
   rw[F5 σ];simp[lay]
  rw[el];exact H b c _ h (by simp;omega)
 ·refine Aj (tk.p.cons _) (Aj (Uq _ _ _) (CN ?_));have:=H b' c' (List.replicate (c' - (l.length + 1)) [I 0]).flatten h (by rw[BT (w:=1) (by intro x hx;rw[(Ue.1 hx).2];rfl)];simp);rw[UW σ,UG σ];simpa using this
theorem Bj {R:RM} {b c:Nat} {l:List Int} {sp:List Value} (h:R b = some (C AZ (l.map I ++ sp))) (hc:l.length≤c):B9 R (S0 b l.length c) l:=
 .inr ⟨b,0,c,_,_,rfl,h,σ,σ,hc⟩
theorem RG {p:Nat} {S S' : Sim} {g:Img} {v:Int} {R:RM} (hok:Ok R S g) (hS:S.oldV v = some S') :
  Fn P JG [Pt p,I v] R (AU p S g) (CK p S' λ_=>True):=by
 refine NZ λF=>?_
 refine z_2 ?_;simp only[Sim.oldV] at hS;split at hS
 ·cases hS
 rename_i hsz;simp only[Bool.not_eq_true,UR] at hsz;have hsz:=EU hsz;refine CQ (jl rfl (jeq (Fj (λh=>?_) (λh=>?_))))
 ·have hph:S.AW = 1:=by simpa using h
  refine jne (Bq λe he=>?_);simp only[List.map,zj,z_t,h] at he;simp only[he];refine Ea (jif (λh2=>?_) (λh2=>?_))
  ·have hv0:v≠0:=by simpa using h2
   rw[if_pos ⟨hph,hv0⟩] at hS;cases hS;refine jl rfl (jc (Br hok.old hsz.2.1) ?_);rintro _ R' _ hR ⟨b,c,sp,hc,hsp,rfl,rfl⟩;have hok':=hok.le hR;refine jbs rfl rfl λb1=>(Qw hc hsp hsz.2.1 (Ay.held (cs:=[I v]) (z_n 1)) λb' c' sp' hc' hsp'=>(Bc (b:=b') λR2 hR2 hb'=>(jss { S with old:=S.old ++ [v] } { g with old:=.slice (some ⟨b',0,none⟩) (S.old.length + 1) c' } rfl rfl δ τ τ ?_)))
   have hi:=Bj hb' (by simpa using hc');rw[Tn,U0] at hi;exact Ae (hR.trans hR2) trivial rfl (by exact { hok'.le hR2 with old:=hi })
  ·have hv0:¬ v≠0:=by simpa using h2
   rw[if_neg (λhh=>hv0 hh.2)] at hS;cases hS;exact Ae (RM.le.refl R) trivial rfl hok
 ·have hph:S.AW≠1:=by simpa using h
  rw[if_neg (λhh=>hph hh.1)] at hS;cases hS;refine Bq λe he=>?_
  simp only[List.map,zj,z_t,h] at he;simp only[he];refine EW (DM (Ae (RM.le.refl R) trivial rfl hok))
theorem jcS {R:RM} {D G:Chs} {p f:Nat} {S S' : Sim} {g:Img} {args:List Value} {r:Value→Prop} {k:Value→M} [w:Fd D p S g G] (hF:Fn P f args R (AU p S g) (CK p S' r))
  (H:∀v R' g',R.le R'→r v→Ok R' S' g'→J R' (AU p S' g' ++ G) (k v)):J R D (CA P f args k):=by
 refine Aj w.ex (jc hF ?_);rintro v R' _ hR ⟨hr,g',rfl,ho⟩;exact H v R' g' hR hr ho
theorem Jk {p:Nat} {S S' : Sim} {g:Img} {i a:Int} {R:RM} (hok:Ok R S g) (hS:S.push i a = some S') :
  Fn P I9 [Pt p,I i,I a] R (AU p S g) (CK p S' λ_=>True):=by
 refine Lx λF=>?_
 refine z_3 ?_;simp only[Sim.push] at hS;split at hS
 ·cases hS
 rename_i hsz;simp only[Bool.not_eq_true,UR] at hsz;have hsz:=EU hsz;split at hS
 ·rename_i t ht;obtain⟨h0,h1,h2,h3⟩:=Ad ht;have hr:=hok.rvl;have h2' : i.toNat < g.rv.length:=ω
  have hv:=hok.rv i.toNat h2 h2';rw[h3] at hv;have hl:t.AA.length < 1000000:=hsz.2.2.2.2 t (by rw[← h3];exact U6 h2);obtain⟨xa,cap,hve,-⟩:=Fz.reads (D:=[]) hv;rw[hve] at hv;refine jl rfl (jia h0 h1 (Qh (p:=p) h2 hr ?_));rw[h3,hve];refine ja λb=>(js (cs':=Ac t (.slice xa t.AA.length cap)) rfl rfl σ rfl (jl rfl (jc (Br hv hl) ?_)))
  rintro _ R' _ hR ⟨b2,c,sp,hc,hsp,rfl,rfl⟩;have hok':=hok.le hR;refine jbs rfl rfl λb1=>(Qw hc hsp hl (Ay.held (cs:=[I a]) (z_n 1)) λb' c' sp' hc' hsp'=>(Bc (b:=b') λR2 hR2 hb'=>?_))
  have hi:=Bj hb' (by simpa using hc');rw[Tn,U0] at hi;refine jS (Ac { t with AA:=t.AA ++ [a] } (.slice (some ⟨b',0,none⟩) (t.AA.length + 1) c')) (jl rfl (jla (by simp[Ac]) rfl (jia h0 h1 (jst (p:=p) { S with th:=AM S.th i { t with AA:=t.AA ++ [a] } } { g with rv:=g.rv.set i.toNat (.slice (some ⟨b',0,none⟩) (t.AA.length + 1) c') } h2 hr rfl τ τ (jcS (CU ((hok'.le hR2).setT hi) hS) λ_ R3 g3 hR3 _ hok3=>(Ae ((hR.trans hR2).trans hR3) trivial rfl hok3))))))
 ·cases hS
theorem Es {R:RM} {D G:Chs} {p:Nat} {S:Sim} {g:Img} {i:Int} {t:Thr} {z:Value} {k:Value→M} [w:Fd D p S g G] (hok:Ok R S g) (ht:idx S.th i = some t) (hz:(cl z).length = 17)
  (H:∀b a cap,B9 R (.slice a t.AA.length cap) t.AA→J R ((b,C AS (Ac t (.slice a t.AA.length cap))) :: D) (k (Pt b))) :
  J R D (L1 (.pointer (some ⟨p,17,none⟩)) λx3=>IA 17 x3 (I i) λx4=>LA 17 x4 λx5=>AL AS z λx6=>ST 17 x6 x5 (k x6)):=by
 obtain⟨h0,h1,h2,h3⟩:=Ad ht;have hr:=hok.rvl;have h2' : i.toNat < g.rv.length:=ω
 have hv:=hok.rv i.toNat h2 h2';rw[h3] at hv;obtain⟨xa,cap,hve,-⟩:=Fz.reads (D:=[]) hv;rw[hve] at hv;refine Aj w.ex (jl rfl (jia h0 h1 (Qh (p:=p) h2 hr ?_)));rw[h3,hve];refine ja λb=>(js (cs':=Ac t (.slice xa t.AA.length cap)) rfl rfl (by rw[hz];exact z_n 17) ?_ ?_)
 ·show lay (cl z) 0 (Ac t _) = _;have:=N4 (b:=[]) (l:=Ac t (.slice xa t.AA.length cap)) (by rw[hz];rfl);simpa using this
 ·exact Aj (w.ex.symm.cons _) (H b xa cap hv)
theorem Eb {R:RM} {D G:Chs} {p b:Nat} {S:Sim} {g:Img} {i:Int} {t:Thr} {v:Value} {m:M} (S' : Sim) [w:Fd D p S g G] [at_:At D b (C AS (Ac t v))] (hok:Ok R S g) (h0:0≤i) (h1:i < S.th.length) (hv:B9 R v t.AA) (hS:S' = { S with th:=AM S.th i t })
  (H:∀g',Ok R S' g'→J R (AU p S' g' ++ G) m) :
  J R D (L1 (.pointer (some ⟨p,17,none⟩)) λx24=>LA 17 (Pt b) λx25=>IA 17 x24 (I i) λx26=>ST 17 x26 x25 m):=by
 subst hS;obtain⟨xa,cap,hve,-⟩:=Fz.reads (D:=[]) hv;subst hve;have hr:=hok.rvl;have h2:i.toNat < S.th.length:=ω
 intro h hs;have hst:=hs.perm w.ex;have hl:J R D (LA 17 (Pt b) λx25=>IA 17 (.slice (some ⟨g.hb,0,none⟩) S.th.length g.hc) (I i) λx26=>ST 17 x26 x25 m):=by
  refine jla (cs:=Ac t (.slice xa t.AA.length cap)) (z_n 17) rfl (jia h0 h1 (jst (p:=p) { S with th:=AM S.th i t } { g with rv:=g.rv.set i.toNat (.slice xa t.AA.length cap) } h2 hr rfl τ τ (H _ (hok.setT hv))))
 have:J R (AU p S g ++ G) (L1 (.pointer (some ⟨p,17,none⟩)) λx24=>LA 17 (Pt b) λx25=>IA 17 x24 (I i) λx26=>ST 17 x26 x25 m):=jl rfl (Aj w.ex.symm hl);exact this h hst
theorem Kz (pc:Int) (h:inR (pc + 1)):Pu IU [I pc] (I (DI pc)):=by
 intro R;refine Ld λF=>?_
 refine z_1 ?_;refine jeq (jif (λh1=>?_) (λh1=>?_))
 ·refine BC (A:=[]) (RM.le.refl R) ?_;rw[DI,if_pos (by simpa using h1)]
 ·refine jeq (jif (λh2=>?_) (λh2=>CF h ?_))
  ·refine BC (A:=[]) (RM.le.refl R) ?_;rw[DI,if_neg (by simpa using h1),if_pos (by simpa using h2)]
  ·refine BC (A:=[]) (RM.le.refl R) ?_;rw[DI,if_neg (by simpa using h1),if_neg (by simpa using h2)]
theorem OT (t:Thr) (a:Option Addr) (n c:Nat) (pc:Int):Pu HP [.agg (Ac t (.slice a n c)).toArray,I pc] (I (BJ t pc)):=by
 intro R;refine Lu λF=>?_
 refine z_2 ?_;refine ja λb=>?_
 have e:cl (.agg (Ac t (.slice a n c)).toArray) = Ac t (.slice a n c):=rfl;rw[e];refine jeq (jif (λh1=>?_) (λh1=>?_))
 ·refine jl rfl (BC (A:=[]) (RM.le.refl R) ?_);rw[BJ,if_pos (by simpa using h1)]
 ·refine jeq (jif (λh2=>?_) (λh2=>?_))
  ·refine jl rfl (BC (A:=[]) (RM.le.refl R) ?_);rw[BJ,if_neg (by simpa using h1),if_pos (by simpa using h2)]
  ·refine jeq (jif (λh3=>?_) (λh3=>?_))
   ·refine jl rfl (BC (A:=[]) (RM.le.refl R) ?_);rw[BJ,if_neg (by simpa using h1),if_neg (by simpa using h2),if_pos (by simpa using h3)]
   ·refine jl rfl (BC (A:=[]) (RM.le.refl R) ?_);rw[BJ,if_neg (by simpa using h1),if_neg (by simpa using h2),if_neg (by simpa using h3)]
end Go.Lf
end
section
namespace Go.Lf
open Go Sm
theorem A7 {α β:Type} {x:Option α} {f:α→Option β} {b:β} (h:(x >>= f) = some b):∃a,x = some a∧f a = some b:=by
 cases x with
 | none=>cases h
 | some a=>exact⟨a,rfl,h⟩
theorem SB {p:Nat} {S S' : Sim} {g:Img} {i v:Int} {R:RM} (hok:Ok R S g) (hS:S.load i v = some S') :
  Fn P IE [Pt p,I i,I v] R (AU p S g) (CK p S' λ_=>True):=by
 refine M0 λF=>?_
 refine z_3 ?_;obtain⟨t,ht,hS⟩:=A7 hS;obtain⟨h0,h1,h2,h3⟩:=Ad ht;refine Es hok ht rfl λb a cap hv=>?_
 have rest:∀e:Env,e 0 = Pt p→e 1 = I i→e 2 = I v→e 6 = Pt b→¬ (t.pc = 12∧v = t.u)→J R ((b,C AS (Ac t (.slice a t.AA.length cap))) :: (AU p S g ++ F)) (CA P FT [(e 0),(e 2)] λx18=>NT x18 λx19=>IF x19 (CA P 151 [(e 0),(e 1),(e 2)] λx20=>F8 R F (CK p S' λ_=>True) (.tuple #[])) (FO 7 (e 6) λx21=>ST 1 x21 (e 2)<|FO 8 (e 6) λx22=>ST 1 x22 (e 2)<|FO 3 (e 6) λx23=>ST 1 x23 (I 11)<|NC (e 0) λx24=>FO 17 x24 λx25=>L1 x25 λx26=>LA 17 (e 6) λx27=>IA 17 x26 (e 1) λx28=>ST 17 x28 x27<|F8 R F (CK p S' λ_=>True) (.tuple #[]))):=by
  intro e e0 e1 e2 e6 hc;simp only[e0,e1,e2,e6];rw[if_neg hc] at hS;obtain⟨c,hf,hS⟩:=A7 hS;refine jcS (Hk hok hf) λ_ R1 g1 hR1 hr ok1=>?_
  subst hr;cases c with
  | false=>
   refine EH (jcS (Jk ok1 hS) λ_ R2 g2 hR2 hr ok2=>(Ae (hR1.trans hR2) trivial rfl ok2))
  | true=>
   refine DM ?_;cases hS;refine jS (Ac { t with u:=v } (.slice a t.AA.length cap)) (jS (Ac { t with u:=v,v:=v } (.slice a t.AA.length cap)) (jS (Ac { t with u:=v,v:=v,pc:=11 } (.slice a t.AA.length cap)) (Eb (S.setT i { t with u:=v,v:=v,pc:=11 }) ok1 h0 h1 (by exact hv.le hR1) τ λg2 ok2=>(Ae hR1 trivial rfl ok2))))
 refine CQ (jl rfl (jeq (Fj (λhp=>jl rfl (jeq (Bq λe he=>?_))) (λhp=>Bq λe he=>?_))))
 ·simp only[List.map,zj,z_t,hp] at he;obtain⟨e0,e1,e2,e6,e17,e21⟩:=he;simp only[e17,e21];refine Ea (jif (λhq=>?_) (λhq=>rest e e0 e1 e2 e6 λhh=>?_))
  ·have hc:t.pc = 12∧v = t.u:=⟨by simpa using hp,by simpa using hq⟩;rw[if_pos hc] at hS;simp only[e0,e1,e6];refine jl rfl (jcS (Jk hok hS) λ_ R2 g2 hR2 hr ok2=>(Ae hR2 trivial rfl ok2))
  ·simp[hh.2] at hq
 ·simp only[List.map,zj,z_t,hp] at he;obtain⟨e0,e1,e2,e6,e17,e21⟩:=he;simp only[e17,e21];refine EW (DM (rest e e0 e1 e2 e6 λhh=>?_));simp[hh.1] at hp
theorem Ot {p:Nat} {S S' : Sim} {g:Img} {i v:Int} {R:RM} (hok:Ok R S g) (hS:S.swap i v = some S') :
  Fn P HK [Pt p,I i,I v] R (AU p S g) (CK p S' λ_=>True):=by
 refine M8 λF=>?_
 refine z_3 ?_;obtain⟨t,ht,hS⟩:=A7 hS;obtain⟨h0,h1,h2,h3⟩:=Ad ht;refine Es hok ht rfl λb a cap hv=>(AY (λvs R' D'=>R' = R∧D' = (b,C AS (Ac t (.slice a t.AA.length cap))) :: (AU p S g ++ F)∧∃c u,vs = [Pt p,I i,I v,Pt b,c,u]∧∀k,zA c u k = k (.bool (t.pc == 16 && v == t.u))) (λK hK=>?_) ?_)
 ·refine jl rfl (jeq (Fj (λhp=>jl rfl (jeq (hK _ _ _ ⟨rfl,rfl,_,_,rfl,λk=>?_⟩))) (λhp=>hK _ _ _ ⟨rfl,rfl,_,_,rfl,λk=>?_⟩)))
  ·simp only[hp,zA,zP,PK,cond_true,UT]
  ·simp only[hp,zA,zP,PK,cond_false,Ui]
 ·rintro e _ _ ⟨rfl,rfl,c,u,he,hpk⟩;simp only[List.map,zj,z_t] at he;obtain⟨e0,e1,e2,e6,e17,e21⟩:=he;simp only[e0,e1,e2,e6,e17,e21];rw[hpk];refine jif (λhq=>?_) (λhc=>?_)
  ·simp only[z_b,beq_iff_eq] at hq;rw[if_pos hq] at hS;refine jcS (CU hok hS) λ_ R2 g2 hR2 hr ok2=>(Ae hR2 trivial rfl ok2)
  have hc:¬ (t.pc = 16∧v = t.u):=by simpa using hc
  rw[if_neg hc] at hS;obtain⟨d,hf,hS⟩:=A7 hS;refine jS (Ac { t with u:=v } (.slice a t.AA.length cap)) (jcS (Hk hok hf) λ_ R1 g1 hR1 hr ok1=>?_);subst hr;refine jif (λhd=>?_) (λhd=>?_)
  ·subst hd;cases hS;refine jS (Ac { t with u:=v,v:=v } (.slice a t.AA.length cap)) (jS (Ac { t with u:=v,v:=v,pc:=15 } (.slice a t.AA.length cap)) (Eb (S.setT i { t with u:=v,v:=v,pc:=15 }) ok1 h0 h1 (by exact hv.le hR1) τ λg2 ok2=>(Ae hR1 trivial rfl ok2)))
  ·subst hd;refine jl rfl (jne (jif (λhg=>?_) (λhg=>?_)))
   ·have hg:v≠t.g:=by simpa using hg
    rw[if_neg δ,if_pos hg] at hS;refine jcS (CU ok1 hS) λ_ R2 g2 hR2 hr ok2=>(Ae (hR1.trans hR2) trivial rfl ok2)
   ·have hg:¬ v≠t.g:=by simpa using hg
    rw[if_neg δ,if_neg hg] at hS;obtain⟨S2,ho,hS⟩:=A7 hS;cases hS;refine jcS (RG ok1 ho) λ_ R2 g2 hR2 hr ok2=>(jS (Ac { t with u:=v,pc:=14 } (.slice a t.AA.length cap)) ?_)
    have hth:S2.th = S.th:=by
     simp only[Sim.oldV] at ho;split at ho
     ·cases ho
     ·cases ho;split<;>rfl
    refine Eb (S2.setT i { t with u:=v,pc:=14 }) ok2 h0 (by rw[hth];exact h1) (by exact hv.le (hR1.trans hR2)) τ λg3 ok3=>(Ae (hR1.trans hR2) trivial rfl ok3)
theorem LX (t:Thr) (xa:Option Addr) (n c:Nat) (pc a:Int) (h:inR (pc + 1)):Pu HQ [.agg (Ac t (.slice xa n c)).toArray,I pc,I a] (.agg (Ac (BQ t pc a) (.slice xa n c)).toArray):=by
 intro R;refine M6 λF=>?_
 refine z_3 ?_;refine ja λb=>ja λb2=>?_
 have e:cl (.agg (Ac t (.slice xa n c)).toArray) = Ac t (.slice xa n c):=rfl;rw[e];refine AY (λvs R' D'=>R' = R∧D' = (b2,C AS (cl SM)) :: (b,C AS (Ac { BQ t pc a with pc:=t.pc } (.slice xa n c))) :: ([] ++ F)∧vs = [I pc,Pt b,Pt b2]) (λK hK=>?_) ?_
 ·refine CQ ?_;have fin:∀t1,t1 = { BQ t pc a with pc:=t.pc }→J R ((b2,C AS (cl SM)) :: (b,C AS (Ac t1 (.slice xa n c))) :: ([] ++ F)) (λh=>∀e:Env,List.map e [1,3,6] = [I pc,Pt b,Pt b2]→K [(e 1),(e 3),(e 6)] h):=by
   rintro t1 rfl;refine Bq λe he=>?_
   refine z_V ?_;exact hK _ _ _ ⟨rfl,rfl,rfl⟩
  refine jeq (jif (λh1=>?_) (λh1=>?_))
  ·refine jS (Ac { t with h:=a } (.slice xa n c)) (fin _ ?_);rw[BQ,if_pos (by simpa using h1)]
  ·refine jeq (jif (λh2=>?_) (λh2=>?_))
   ·refine jS (Ac { t with g:=a } (.slice xa n c)) (fin _ ?_);rw[BQ,if_neg (by simpa using h1),if_pos (by simpa using h2)]
   ·refine jeq (jif (λh3=>?_) (λh3=>?_))
    ·refine jS (Ac { t with k:=a } (.slice xa n c)) (fin _ ?_);rw[BQ,if_neg (by simpa using h1),if_neg (by simpa using h2),if_pos (by simpa using h3)]
    ·refine jS (Ac { t with v:=a } (.slice xa n c)) (fin _ ?_);rw[BQ,if_neg (by simpa using h1),if_neg (by simpa using h2),if_neg (by simpa using h3)]
 ·rintro e _ _ ⟨rfl,rfl,he⟩;refine z_V ?_;refine jp (Kz pc h) ?_;have hp:(BQ t pc a).pc = DI pc:=rfl;refine js rfl rfl (by simp[Ac]) rfl (jla (cs:=Ac (BQ t pc a) (.slice xa n c)) (z_n 17) rfl (js rfl rfl (by exact z_n 17) rfl (jla (cs:=Ac (BQ t pc a) (.slice xa n c)) (z_n 17) rfl (BC (A:=[]) (RM.le.refl _) rfl))))
theorem NS {p:Nat} {S S' : Sim} {g:Img} {i:Int} {R:RM} (hok:Ok R S g) (hS:S.resolve i = some S') :
  Fn P F9 [Pt p,I i] R (AU p S g) (CK p S' λ_=>True):=by
 refine Iq λF=>?_
 refine z_2 ?_;obtain⟨t,ht,hS⟩:=A7 hS;obtain⟨h0,h1,h2,h3⟩:=Ad ht;split at hS
 ·cases hS
 rename_i hpc;have hpc:0≤t.pc∧t.pc≤100:=Classical.not_not.1 hpc;have hin:inR (t.pc + 1):=⟨ω,ω⟩;obtain⟨c,hf,hS⟩:=A7 hS;refine Es hok ht rfl λb a cap hv=>(jl rfl (jla (cs:=Ac t (.slice a t.AA.length cap)) (z_n 17) rfl (jp (OT t a t.AA.length cap t.pc) (jcS (Hk hok hf) λ_ R1 g1 hR1 hr ok1=>?_))))
 subst hr;refine jif (λhc=>?_) (λhc=>?_)
 ·have hc:c = false:=by simpa using hc
  subst hc;cases hS;refine jp (Kz t.pc hin) (jS (Ac { t with pc:=DI t.pc } (.slice a t.AA.length cap)) (Eb (S.setT i { t with pc:=DI t.pc }) ok1 h0 h1 (by exact hv.le hR1) τ λg2 ok2=>(Ae hR1 trivial rfl ok2)))
 ·have hc:c = true:=by simpa using hc
  subst hc;obtain⟨⟨f,S1⟩,hrd,hS⟩:=A7 hS;dsimp only at hS;have hS1:S1.th = S.th∧S1.AW = S.AW:=by
   simp only[Sim.read] at hrd;split at hrd
   ·cases hrd;exact⟨rfl,rfl⟩
   ·cases hrd
  refine jcS (CI ok1 hrd) λ_ R2 g2 hR2 hr ok2=>?_
  subst hr;refine AY (λvs R' D'=>R' = R2∧∃t',t'.AA = t.AA∧S' = S1.setT i t'∧D' = AU p S1 g2 ++ (b,C AS (Ac t' (.slice a t.AA.length cap))) :: F∧vs = [Pt p,I i,Pt b]) (λK hK=>?_) ?_
  ·refine AY (λvs R' D'=>R' = R2∧D' = AU p S1 g2 ++ (b,C AS (Ac t (.slice a t.AA.length cap))) :: F∧∃c u,vs = [Pt p,I i,Pt b,I t.pc,I (BJ t t.pc),I f,c,u]∧∀k,zA c u k = k (.bool (f == BJ t t.pc && S.AW == 2))) (λK2 hK2=>?_) ?_
   ·refine jeq (Fj (λhp=>jl rfl (jeq (hK2 _ _ _ ⟨rfl,rfl,_,_,rfl,λk=>?_⟩))) (λhp=>hK2 _ _ _ ⟨rfl,rfl,_,_,rfl,λk=>?_⟩))
    ·simp only[hp,zA,zP,PK,cond_true,UT,hS1.2]
    ·simp only[hp,zA,zP,PK,cond_false,Ui]
   ·rintro e _ _ ⟨rfl,rfl,c,u,he,hpk⟩;simp only[List.map,zj,z_t] at he;obtain⟨e0,e1,e4,e5,e6,e7,e40,e46⟩:=he;simp only[e0,e1,e4,e5,e6,e7,e40,e46];rw[hpk];refine jif (λhq=>?_) (λhq=>?_)
    ·simp only[z_b,beq_iff_eq] at hq;rw[if_pos ⟨hq.1,by rw[hS1.2];exact hq.2⟩] at hS;cases hS;refine jS (Ac { t with src:=BJ t t.pc } (.slice a t.AA.length cap)) (jS (Ac { t with src:=BJ t t.pc,ret:=t.pc } (.slice a t.AA.length cap)) (js rfl rfl (by simp[Ac]) rfl (hK _ _ _ ⟨rfl,{ t with src:=BJ t t.pc,ret:=t.pc,pc:=20 },rfl,rfl,rfl,rfl⟩)))
    ·have hq:¬ (f = BJ t t.pc∧S1.AW = 2):=by rw[hS1.2];simpa using hq
     rw[if_neg hq] at hS;cases hS;refine jla (cs:=Ac t (.slice a t.AA.length cap)) (z_n 17) rfl (jp (LX t a t.AA.length cap t.pc f hin) (js rfl rfl (by exact z_n 17) rfl (hK _ _ _ ⟨rfl,BQ t t.pc f,?_,rfl,rfl,rfl⟩)));simp only[BQ];split<;>(try split)<;>(try split)<;>rfl
  ·rintro e _ _ ⟨rfl,t',hr,rfl,rfl,he⟩;refine z_V ?_;have hv' : B9 _ _ _:=hv.le (hR1.trans hR2);refine Eb (S1.setT i t') ok2 h0 (by rw[hS1.1];exact h1) (by rw[hr];exact hv') τ λg3 ok3=>(Ae (hR1.trans hR2) trivial rfl ok3)
theorem M1 (a b:Bool) (x y:Operand) (w:World):(do eqGuard .neq 4 x y (.bool a) (.bool b);binOp .neq 4 (.bool a) (.bool b):Sem Value).run P w = .ok (.bool (a != b)) w:=by
 cases a<;>cases b<;>kernel_rfl
theorem jxb {a b:Bool} {x y:Operand} {R:RM} {D:Chs} {k:Value→M} (H:J R D (k (.bool (a != b)))):J R D (X P (do eqGuard .neq Au x y (.bool a) (.bool b);binOp .neq Au (.bool a) (.bool b)) k):=by
 intro h hs w hw;have:=M1 a b x y w;rw[this];subst hw;exact⟨Ap.refl _,H _ hs⟩
theorem Ri:(P.fieldsOf AK).toList.map (λf=>(f.name != "_",f.type,f.offset)) = [(true,AZ,0),(true,AZ,1),(true,AZ,2),(true,AZ,3),(true,AZ,4)]:=by kernel_rfl
theorem Px (f:Nat) (o:Nat) (xs:List Value) (v:Value) (w:World) (h:xs[o]? = some v):(part AZ xs.toArray o).run P w = .ok v w:=
 run_part_plain w (by kernel_rfl) (by simpa using h)
theorem PH (d:Nat) (w:World) (xs ys:List Value):∀(fs:List Field) (os:List Nat) (ps bs:List Int),fs.map (λf=>(f.name != "_",f.type,f.offset)) = os.map (λo=>(true,AZ,o))→os.map (xs[·]?) = ps.map (λa=>some (I a))→os.map (ys[·]?) = bs.map (λb=>some (I b))→
  (Op.eqFields (d + 1) xs.toArray ys.toArray fs).run P w = .ok (ps == bs) w:=by
 intro fs;induction fs with
 | nil=>intro os ps bs h1 h2 h3;cases os<;>simp at h1;cases ps<;>simp at h2;cases bs<;>simp at h3;simp[Op.eqFields]
 | cons f fs ih=>
  intro os ps bs h1 h2 h3;cases os with
  | nil=>simp at h1
  | cons o os=>
   cases ps with
   | nil=>simp at h2
   | cons a ps=>
    cases bs with
    | nil=>simp at h3
    | cons b bs=>
     simp only[V6,zj,Prod.mk.injEq] at h1 h2 h3;obtain⟨⟨n1,n2,n3⟩,h1⟩:=h1;have n1' : f.name≠ "_":=by simpa using n1
     simp only[Op.eqFields,if_pos n1',U5];rw[n2,n3,Px 0 o xs (I a) w h2.1];simp only[Tt];rw[Px 0 o ys (I b) w h3.1];simp only[Tt];rw[run_equalIn_int w d AZ .i64 .i64 a b (by kernel_rfl)];simp only[Tt];cases hb:(a == b)
     ·simp[hb]
     ·simp[hb,ih os ps bs h1 h2.2 h3.2]
theorem Ta {a b:Rg} {x y:Operand} {R:RM} {D:Chs} {k:Value→M} (H:J R D (k (.bool (!(a == b))))):J R D (X P (do eqGuard .neq AK x y (.agg (eRg a).toArray) (.agg (eRg b).toArray);binOp .neq AK (.agg (eRg a).toArray) (.agg (eRg b).toArray)) k):=by
 intro h hs w hw;have hfs:=Ri;rw[U5,run_eqGuard_agg _ _ _ _ _ _ _ (by kernel_rfl)];simp only[Tt];rw[run_neq_struct,run_equalIn_struct w 9999 AK _ _ (by kernel_rfl) (by kernel_rfl),PH 9998 w (eRg a) (eRg b) _ [0,1,2,3,4] [a.kind,a.AR,a.top,a.Al,a.AH] [b.kind,b.AR,b.top,b.Al,b.AH] hfs rfl rfl];simp only[Tt];have:([a.kind,a.AR,a.top,a.Al,a.AH] == [b.kind,b.AR,b.top,b.Al,b.AH]) = (a == b):=by
  rw[Ul];obtain⟨a1,a2,a3,a4,a5⟩:=a;obtain⟨b1,b2,b3,b4,b5⟩:=b;simp
 rw[this];subst hw;exact⟨Ap.refl _,H _ hs⟩
end Go.Lf
end
section
namespace Sm
def gv {α:Type} (d:α) (l:List α) (a:Int):α:=l.getD a.toNat d
theorem MJ {α:Type} {d:α} {l:List α} {a x:Int} {v:α} (h0:0≤a) (h1:a < l.length) (hx:0≤x):gv d (AM l a v) x = if x = a then v else gv d l x:=by
 unfold gv AM;rw[Ty,Ty,List.getElem?_set];by_cases h:x = a
 ·subst h;rw[if_pos rfl,if_pos rfl,if_pos ω];rfl
 ·rw[if_neg ω,if_neg h]
theorem Jg {α:Type} {d:α} {l:List α} {a:Int} (h0:0≤a) (h1:a < l.length):idx l a = some (gv d l a):=by
 unfold idx gv;rw[if_pos h0,Ty,Tl ω];rfl
theorem GL {α:Type} {l:List α} {a:Int} {v:α} (d:α) (h:idx l a = some v):0≤a∧a < l.length∧gv d l a = v:=by
 unfold idx at h;split at h
 ·obtain⟨hi,he⟩:=UF.1 h;refine⟨‹_›,ω,?_⟩;unfold gv;rw[Ty,h];rfl
 ·cases h
theorem Ek {α:Type} {d:α} {l:List α} {k:Nat} (h:k < l.length):gv d l (k:Int) = l[k]:=by
 unfold gv;rw[Tj,Ty,Tl h];rfl
theorem RZ {α:Type} {d:α} {l:List α} {a:Int} (h0:0≤a) (h:l.length≤a):gv d l a = d:=by
 unfold gv;rw[Ty,UM ω];rfl
@[simp] theorem CP {α:Type} {l:List α} {a:Int} {v:α}:(AM l a v).length = l.length:=by simp[AM]
@[reducible] def wv (l:List Int) (a:Int):Int:=gv 0 l a
@[reducible] def mv (l:List Bool) (a:Int):Bool:=gv false l a
@[reducible] def rv (t:List Rg) (r:Int):Rg:=gv DY t r
theorem Ob {l:List Int} {a:Int} (h0:0≤a) (h1:a < l.length):idx l a = some (wv l a):=Jg h0 h1
theorem M9 {l:List Bool} {a:Int} (h0:0≤a) (h1:a < l.length):idx l a = some (mv l a):=Jg h0 h1
theorem CJ {l:List Rg} {a:Int} (h0:0≤a) (h1:a < l.length):idx l a = some (rv l a):=Jg h0 h1
theorem Co {l:List Int} {a x v:Int} (h0:0≤a) (h1:a < l.length) (hx:0≤x):wv (AM l a v) x = if x = a then v else wv l x:=MJ h0 h1 hx
theorem Mh {l:List Bool} {a x:Int} {v:Bool} (h0:0≤a) (h1:a < l.length) (hx:0≤x):mv (AM l a v) x = if x = a then v else mv l x:=MJ h0 h1 hx
theorem Cv {l:List Rg} {a x:Int} {v:Rg} (h0:0≤a) (h1:a < l.length) (hx:0≤x):rv (AM l a v) x = if x = a then v else rv l x:=MJ h0 h1 hx
theorem Cn {t:List Rg} {r:Int} (h0:0≤r) (h:t.length≤r):rv t r = DY:=RZ h0 h
structure Is (r:Int) (x:Rg):Prop where
 k0:1≤x.kind
 k1:x.kind≤4
 t0:16 * r≤x.top
 t1:x.top≤16 * r + 16
 s0:16 * r≤x.Al
 s1:x.Al≤x.top
 l0:0≤x.AH
 l1:x.AH≤x.top - 16 * r
 fr:x.kind = 1→x.top = 16 * r
 ow:x.kind = 2↔0≤x.AR
 o0:-1≤x.AR
 o1:x.AR≤3
structure TOk (t:List Rg):Prop where
 n0:2≤t.length
 n1:t.length≤12
 e:rv t 0 = DY
 row:∀r:Int,1≤r→r < t.length→Is r (rv t r)
 own:∀r s:Int,1≤r→r < t.length→1≤s→s < t.length→0≤(rv t r).AR→(rv t r).AR = (rv t s).AR→r = s
theorem CT {r:Int} (h0:0≤r) (h1:r < 12):AG r = 16 * r:=by
 unfold AG;rw[if_neg ω];omega
theorem Nc {r:Int} {x:Rg} (h0:0≤r) (h1:r < 12):Q6 r x = true↔Is r x:=by
 unfold Q6;rw[CT h0 h1];simp only[z_b,z_d,U8,UC,beq_eq_false_iff_ne,beq_iff_eq];constructor
 ·rintro⟨⟨⟨⟨⟨⟨⟨⟨⟨⟨⟨a,b⟩,c⟩,d⟩,e⟩,f⟩,g⟩,h⟩,i⟩,j⟩,k⟩,l⟩;refine⟨a,b,c,d,e,f,g,h,λhk=>?_,?_,k,l⟩
  ·rcases i with i | i
   ·exact absurd hk i
   ·exact i
  ·rw[Ul] at j;simpa using j
 ·rintro⟨a,b,c,d,e,f,g,h,i,j,k,l⟩;refine⟨⟨⟨⟨⟨⟨⟨⟨⟨⟨⟨a,b⟩,c⟩,d⟩,e⟩,f⟩,g⟩,h⟩,?_⟩,?_⟩,k⟩,l⟩
  ·by_cases hk:x.kind = 1
   ·exact .inr (i hk)
   ·exact .inl hk
  ·rw[Ul];simpa using j
theorem IH:∀(l:List Rg) (i:Nat),i + l.length≤12→(HY i l = true↔(∀k (h:k < l.length),Is (i + k:Nat) l[k])∧∀k m (h:k < m) (hm:m < l.length),0≤(l[k]).AR→(l[m]).AR≠(l[k]).AR):=by
 intro l;induction l with
 | nil=>intro i _;simp[HY]
 | cons x r ih=>
  intro i hi;simp only[U4] at hi;simp only[HY,z_b,ih (i + 1) ω,Nc (r:=(i:Int)) ω ω,U8,z_d,UB,UC,beq_eq_false_iff_ne];constructor
  ·rintro⟨⟨h1,h2⟩,h3,h4⟩;refine⟨λk h=>?_,λk m h hm ho=>?_⟩
   ·cases k with
    | zero=>exact h1
    | succ k=>
     have:=h3 k (by simpa using h);rw[show i + (k + 1) = i + 1 + k from ω];exact this
   ·cases m with
    | zero=>omega
    | succ m=>
     cases k with
     | zero=>
      simp only[List.getElem_cons_zero] at ho;rcases h2 with h2 | h2
      ·omega
      ·exact h2 _ (U6 (by simpa using hm))
     | succ k=>exact h4 k m ω (by simpa using hm) (by simpa using ho)
  ·rintro⟨h1,h2⟩;refine⟨⟨h1 0 σ,?_⟩,λk h=>?_,λk m h hm ho=>?_⟩
   ·by_cases hx:x.AR < 0
    ·exact .inl hx
    ·refine .inr λy hy=>?_
     obtain⟨n,hn,rfl⟩:=UE hy;exact h2 0 (n + 1) ω (by simpa using hn) (by simpa using hx)
   ·have:=h1 (k + 1) (by simpa using h);rw[show i + 1 + k = i + (k + 1) from ω];exact this
   ·exact h2 (k + 1) (m + 1) ω (by simpa using hm) (by simpa using ho)
theorem BL {t:List Rg}:BF t = true↔TOk t:=by
 cases t with
 | nil=>simp[BF];intro h;have:=h.n0;simp at this
 | cons e r=>
  simp only[BF,z_b,z_d,beq_iff_eq];have gz:rv (e :: r) 0 = e:=rfl;have gs:∀k (h:k < r.length),rv (e :: r) ((1 + k:Nat):Int) = r[k]:=λk h=>by
   rw[rv,Ek (by simp;omega)];simp only[Nat.add_comm 1 k,List.getElem_cons_succ]
  constructor
  ·rintro⟨⟨⟨h1,h2⟩,h3⟩,h4⟩;rw[IH r 1 ω] at h4;have sp:∀x:Int,1≤x→x < (e :: r).length→∃k,∃h:k < r.length,x = ((1 + k:Nat):Int)∧rv (e :: r) x = r[k]:=λx hx hx2=>by
    simp only[U4] at hx2;refine⟨x.toNat - 1,ω,ω,?_⟩;have:=gs (x.toNat - 1) ω;rw[show ((1 + (x.toNat - 1):Nat):Int) = x from ω] at this;exact this
   refine⟨by simp;omega,by simp;omega,by rw[gz];exact h3,λx hx hx2=>?_,λx y hx hx2 hy hy2 ho he=>?_⟩
   ·obtain⟨k,h,hk,hv⟩:=sp x hx hx2;rw[hv,hk];exact h4.1 k h
   ·obtain⟨k,h,hk,hv⟩:=sp x hx hx2;obtain⟨m,h',hm,hv'⟩:=sp y hy hy2;rw[hv,hv'] at he;rw[hv] at ho;rcases Nat.lt_trichotomy k m with c | c | c
    ·exact absurd he.symm (h4.2 k m c h' ho)
    ·omega
    ·exact absurd he (h4.2 m k c h (he▸ho))
  ·intro T;have n0:=T.n0;have n1:=T.n1;simp only[U4] at n0 n1;refine⟨⟨⟨ω,ω⟩,by rw[← gz];exact T.e⟩,?_⟩;rw[IH r 1 ω];refine⟨λk h=>?_,λk m h hm ho he=>?_⟩
   ·rw[← gs k h];exact T.row _ ω (by simp;omega)
   ·rw[← gs m hm,← gs k ω] at he;rw[← gs k ω] at ho;have:=T.own _ _ ω (by simp;omega) ω (by simp;omega) ho he.symm;omega
theorem TOk.set {t:List Rg} {r:Int} {x:Rg} (T:TOk t) (h0:1≤r) (h1:r < t.length) (hx:Is r x) (ho:∀s:Int,1≤s→s < t.length→s≠r→0≤x.AR→(rv t s).AR≠x.AR):TOk (AM t r x):=by
 have gs:∀s,0≤s→rv (AM t r x) s = if s = r then x else rv t s:=λs hs=>Cv ω h1 hs
 refine⟨by simpa using T.n0,by simpa using T.n1,?_,λs hs hs2=>?_,λs u hs hs2 hu hu2 h he=>?_⟩
 ·rw[gs 0 ω,if_neg ω];exact T.e
 ·rw[gs s ω];by_cases c:s = r
  ·rw[if_pos c,c];exact hx
  ·rw[if_neg c];exact T.row s hs (by simpa using hs2)
 ·simp only[CP] at hs2 hu2;rw[gs s ω] at h he;rw[gs u ω] at he;by_cases c:s = r<;>by_cases d:u = r
  ·omega
  ·rw[if_pos c] at h he;rw[if_neg d] at he;exact absurd he.symm (ho u hu hu2 d h)
  ·rw[if_neg c] at h he;rw[if_pos d] at he;exact absurd he (ho s hs hs2 c (he▸h))
  ·rw[if_neg c] at h he;rw[if_neg d] at he;exact T.own s u hs hs2 hu hu2 h he
theorem O4 (p:Rg→Bool):∀(l:List Rg) (n:Nat),(BY p n l = -1∧∀k (h:k < l.length),p l[k] = false)∨∃k,∃h:k < l.length,BY p n l = (n + k:Nat)∧p l[k] = true:=by
 intro l;induction l with
 | nil=>intro n;left;exact⟨rfl,λk h=>by simp at h⟩
 | cons x r ih=>
  intro n;simp only[BY];cases hx:p x with
  | true=>right;exact⟨0,σ,σ,by simpa using hx⟩
  | false=>
   rcases ih (n + 1) with ⟨h1,h2⟩ | ⟨k,h,h1,h2⟩
   ·left;refine⟨by simpa using h1,λk h=>?_⟩;cases k with
    | zero=>exact hx
    | succ k=>exact h2 k (by simpa using h)
   ·right;exact⟨k + 1,by simpa using h,by simp[h1];omega,by simpa using h2⟩
theorem G6 {t:List Rg} {k:Nat} (h:k < t.tail.length):t.tail[k] = rv t ((1 + k:Nat):Int):=by
 rw[rv,Ek (by simp at h;omega)];simp[List.getElem_tail,Nat.add_comm]
theorem Dv (p:Rg→Bool) (t:List Rg):(BY p 1 t.tail = -1∧∀r:Int,1≤r→r < t.length→p (rv t r) = false)∨(1≤BY p 1 t.tail∧BY p 1 t.tail < t.length∧p (rv t (BY p 1 t.tail)) = true):=by
 rcases O4 p t.tail 1 with ⟨h1,h2⟩ | ⟨k,h,h1,h2⟩
 ·left;refine⟨h1,λr h0 hr=>?_⟩;have:=h2 (r.toNat - 1) (by simp;omega);rw[G6,show ((1 + (r.toNat - 1):Nat):Int) = r from ω] at this;exact this
 ·right;rw[G6 h] at h2;rw[h1];simp at h;exact⟨ω,ω,h2⟩
structure N3 (t:List Rg) (o size:Int) (t' : List Rg) (d:Int):Prop where
 ok:TOk t'
 len:t'.length = t.length
 d0:16≤d
 dk:(rv t' (d / 16)).kind = 2
 do_:(rv t' (d / 16)).AR = o
 dt:(rv t' (d / 16)).top = d
 fit:d + size≤16 * (d / 16) + 16
 top:∀r,0≤r→(rv t' r).top = (rv t r).top
 Al:∀r,0≤r→(rv t' r).Al = (rv t r).Al
 AH:∀r,0≤r→(rv t' r).AH = (rv t r).AH
 frm:∀r,0≤r→((rv t' r).kind = 4↔(rv t r).kind = 4)
 oth:∀r,0≤r→(rv t r).kind = 2→(rv t r).AR≠o→rv t' r = rv t r
theorem J8 {t:List Rg} {o size:Int} (T:TOk t) (o0:0≤o) (o1:o≤3) (hn:own t o < 0) (s1:size≤16):Bh t o = none∨∃t' r,Bh t o = some (t',r)∧N3 t o size t' (AG r):=by
 unfold Bh;rw[if_pos (by simp[BL.2 T,o0,o1,hn])];rcases Dv (λx=>x.kind == 1) t with ⟨h1,_⟩ | ⟨h1,h2,h3⟩
 ·left;simp only[h1];rfl
 ·right;generalize BY (λx=>x.kind == 1) 1 t.tail = r at h1 h2 h3;have hk:(rv t r).kind = 1:=by simpa using h3
  have n1:=T.n1;have hb:=CT (r:=r) ω ω;have R:=T.row r h1 h2;have hno:∀s:Int,1≤s→s < t.length→¬ ((rv t s).kind = 2∧(rv t s).AR = o):=by
   intro s hs hs2 hh;rcases Dv (λx=>x.kind == 2 && x.AR == o) t with ⟨_,g⟩ | ⟨g,_,_⟩
   ·have:=g s hs hs2;simp[hh.1,hh.2] at this
   ·unfold own at hn;omega
  have hto:=R.fr hk;refine⟨_,_,by dsimp only;rw[if_neg ω,hb],?_⟩;have gs:∀s,0≤s→rv (AM t r ⟨2,o,16 * r,16 * r,0⟩) s = if s = r then ⟨2,o,16 * r,16 * r,0⟩ else rv t s:=λs hs=>Cv ω h2 hs
  have ed:16 * r / 16 = r:=ω
  have s0':=R.s0;have s1':=R.s1;have l0':=R.l0;have l1':=R.l1;refine⟨?_,σ,by rw[hb];omega,?_,?_,?_,by rw[hb];omega,?_,?_,?_,?_,?_⟩
  ·refine T.set h1 h2 ⟨σ,σ,by exact UI _,?_,by exact UI _,by exact UI _,σ,?_,?_,?_,?_,o1⟩ λs hs hs2 hne ho he=>?_
   ·show 16 * r≤16 * r + 16;omega
   ·show 0≤16 * r - 16 * r;omega
   ·intro h;cases h
   ·exact⟨λ_=>o0,λ_=>rfl⟩
   ·show -1≤o;omega
   ·have:=(T.row s hs hs2).ow.2 (by rw[he];exact o0);exact hno s hs hs2 ⟨this,he⟩
  ·rw[hb,ed,gs r ω,if_pos rfl]
  ·rw[hb,ed,gs r ω,if_pos rfl]
  ·rw[hb,ed,gs r ω,if_pos rfl]
  ·intro s hs;rw[gs s hs];split
   ·subst s;exact hto.symm
   ·rfl
  ·intro s hs;rw[gs s hs];split
   ·subst s;simp only[];omega
   ·rfl
  ·intro s hs;rw[gs s hs];split
   ·subst s;simp only[];omega
   ·rfl
  ·intro s hs;rw[gs s hs];split
   ·subst s;simp only[];omega
   ·exact Iff.rfl
  ·intro s hs hk2 ho;rw[gs s hs];split
   ·subst s;omega
   ·rfl
theorem E0 {t:List Rg} {o size:Int} (T:TOk t) (o0:0≤o) (o1:o≤3) (s0:1≤size) (s1:size≤16):As t o size = none∨∃t' d,As t o size = some (t',d)∧N3 t o size t' d:=by
 unfold As;rw[if_pos (by simp[BL.2 T,o0,o1,s0,s1])];have n1:=T.n1;dsimp only;rcases Dv (λx=>x.kind == 2 && x.AR == o) t with ⟨h1,h2⟩ | ⟨h1,h2,h3⟩
 ·have ho:own t o = -1:=h1;rw[ho];rw[if_neg ω];rcases J8 (size:=size) T o0 o1 (by rw[ho];omega) s1 with h | ⟨t',r,h,hr⟩
  ·left;simp only[h]
  ·right;simp only[h];exact⟨_,_,rfl,hr⟩
 ·have ho:own t o = BY (λx=>x.kind == 2 && x.AR == o) 1 t.tail:=rfl;rw[← ho] at h1 h2 h3;generalize own t o = r at h1 h2 h3;simp only[z_b,beq_iff_eq] at h3;have R:=T.row r h1 h2;have hb:=CT (r:=r) ω ω;rw[if_pos ω,CJ ω h2];dsimp only;rw[hb];by_cases hf:(rv t r).top + size≤16 * r + 16
  ·right;have t0:=R.t0;have ed:(rv t r).top / 16 = r:=ω
   refine⟨_,_,by rw[if_pos hf],T,rfl,ω,by rw[ed];exact h3.1,by rw[ed];exact h3.2,by rw[ed],by rw[ed];exact hf,λ_ _=>rfl,λ_ _=>rfl,λ_ _=>rfl,λ_ _=>Iff.rfl,λ_ _ _ _=>rfl⟩
  ·rw[if_neg hf];have hcl:C4 t r = some (AM t r { rv t r with kind:=3,AR:=-1 }):=by
    unfold C4;rw[if_pos (by simp[BL.2 T,h1]),CJ ω h2];dsimp only;rw[if_pos (by simpa using h3.1)]
   rw[hcl];simp only[Uj];have gs:∀s,0≤s→rv (AM t r { rv t r with kind:=3,AR:=-1 }) s = if s = r then { rv t r with kind:=3,AR:=-1 } else rv t s:=λs hs=>Cv ω h2 hs
   have T2:TOk (AM t r { rv t r with kind:=3,AR:=-1 }):=by
    refine T.set h1 h2 ⟨σ,σ,R.t0,R.t1,R.s0,R.s1,R.l0,R.l1,?_,?_,σ,σ⟩ λs hs hs2 hne ho he=>?_
    ·intro h;cases h
    ·simp
    ·simp at ho
   have hno:own (AM t r { rv t r with kind:=3,AR:=-1 }) o < 0:=by
    rcases Dv (λx=>x.kind == 2 && x.AR == o) (AM t r { rv t r with kind:=3,AR:=-1 }) with ⟨g,_⟩ | ⟨g1,g2,g3⟩
    ·unfold own;rw[g];decide
    ·exfalso;generalize BY (λx=>x.kind == 2 && x.AR == o) 1 (AM t r { rv t r with kind:=3,AR:=-1 }).tail = s at g1 g2 g3;rw[gs s ω] at g3;simp only[CP] at g2;by_cases c:s = r
     ·rw[if_pos c] at g3;simp at g3
     ·rw[if_neg c] at g3;simp only[z_b,beq_iff_eq] at g3;exact c (T.own s r g1 g2 h1 h2 (by rw[g3.2];exact o0) (by rw[g3.2,h3.2]))
   rcases J8 (size:=size) T2 o0 o1 hno s1 with h | ⟨t',u,h,hr⟩
   ·left;simp only[h]
   ·right;simp only[h];refine⟨_,_,rfl,hr.ok,by rw[hr.len];simp,hr.d0,hr.dk,hr.do_,hr.dt,hr.fit,λs hs=>?_,λs hs=>?_,λs hs=>?_,λs hs=>?_,λs hs hk hoo=>?_⟩
    ·rw[hr.top s hs,gs s hs];split
     ·subst s;rfl
     ·rfl
    ·rw[hr.Al s hs,gs s hs];split
     ·subst s;rfl
     ·rfl
    ·rw[hr.AH s hs,gs s hs];split
     ·subst s;rfl
     ·rfl
    ·rw[hr.frm s hs,gs s hs];split
     ·subst s;simp only[];omega
     ·exact Iff.rfl
    ·have hne:s≠r:=by intro c;subst c;exact hoo h3.2
     have:=hr.oth s hs (by rw[gs s hs,if_neg hne];exact hk) (by rw[gs s hs,if_neg hne];exact hoo);rw[this,gs s hs,if_neg hne]
end Sm
end
