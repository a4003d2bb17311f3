/- A part of the proof of the given row: the walk of the law and of all that it calls. Conditions: none. -/
import Derived.Laws.StructEq
import Derived.ChangeKeysEq
import Derived.Test.YtlagojobcbkpdaaGreatCD
set_option linter.unusedVariables false
set_option linter.unusedSimpArgs false
section
namespace Go.Lf
open Go Sm
def Ab {α:Type} (f:α→List Value) (l:List α):List Value:=(l.map f).flatten
@[reducible] def eRg (x:Rg):List Value:=[I x.kind,I x.AT,I x.top,I x.Az,I x.AQ]
@[reducible] def eOp (o:Sm.Op):List Value:=[I o.kind,I o.a,I o.b,I o.c,I o.f,I o.v,I o.sh.refs,I o.sh.nums]
def Ad (t:Thr) (rv:Value):List Value:=[rv,I t.next,I t.Au,I t.pc,I t.h,I t.g,I t.k,I t.u,I t.v,I t.sh.refs,I t.sh.nums,I t.src,I t.dst,I t.size,I t.i,I t.word,I t.ret]
@[reducible] def eEv (e:Ev):List Value:=[I e.thread,I e.next,I e.ans,I e.code]
def Fz (R:RM) (v:Value) (w n:Nat) (cells:List Value):Prop:=
 (v = .slice none 0 0∧n = 0∧cells = [])∨∃b o cap t cs,v = .slice (some ⟨b,o,none⟩) n cap∧R b = some (C t cs)∧o + n * w≤cs.length∧(cs.drop o).take (n * w) = cells∧n≤cap
theorem Fz.le {R R' : RM} {v:Value} {w n:Nat} {cells:List Value} (h:R.le R') (H:Fz R v w n cells):Fz R' v w n cells:=by
 rcases H with H | ⟨b,o,cap,t,cs,h1,h2,h3,h4,h5⟩
 ·exact .inl H
 ·exact .inr ⟨b,o,cap,t,cs,h1,h _ _ h2,h3,h4,h5⟩
def BC (R:RM) (v:Value) (l:List Int):Prop:=Fz R v 1 l.length (l.map I)
def Ops (R:RM) (v:Value) (l:List Sm.Op):Prop:=Fz R v 8 l.length (Ab eOp l)
def EA (R:RM) (v:Value) (l:List (List Sm.Op)):Prop:=∃vs,Fz R v 1 l.length vs∧vs.length = l.length∧∀i (h:i < l.length),∃x,vs[i]? = some x∧Ops R x (l[i])
structure Img where
 AX:Value
 wb:Nat
 wc:Nat
 wsp:List Value
 tb:Nat
 tc:Nat
 tsp:List Value
 mb:Nat
 mc:Nat
 msp:List Value
 Ag:Value
 want:Value
 AA:Value
 old:Value
 AO:Value
 hb:Nat
 hc:Nat
 hsp:List Value
 rv:List Value
 AG:Value
 ev:Option (Nat × Nat)
 esp:List Value
def evV (S:Sim) (g:Img):Value:=match g.ev with | none=>.slice none 0 0 | some (b,c)=>S0 b S.ev.length c
def evD (S:Sim) (g:Img):Chs:=match g.ev with | none=>[] | some (b,_)=>[(b,C Dl (Ab eEv S.ev ++ g.esp))]
def Ah (x:Col) (sv:Value):List Value:=[I x.pc,.bool x.Ag,I x.want,sv,I x.r,I x.p,I x.i,I x.sh.refs,I x.sh.nums,I x.v,I x.f,I x.src,I x.dst,I x.size,I x.word]
def Br (S:Sim) (g:Img):List Value:=
 I S.c.AC :: I S.c.AA :: I S.c.AN :: g.AX :: .slice (some ⟨g.wb,0,none⟩) S.AB.length g.wc :: .slice (some ⟨g.tb,0,none⟩) S.A0.length g.tc :: .slice (some ⟨g.mb,0,none⟩) S.AR.length g.mc ::
 I S.Aa :: .bool S.stop :: .bool S.full :: g.Ag :: g.want :: g.AA :: g.old :: g.AO :: I S.B8 :: I S.Bf :: .slice (some ⟨g.hb,0,none⟩) S.th.length g.hc ::
 I S.col.pc :: .bool S.col.Ag :: I S.col.want :: g.AG :: I S.col.r :: I S.col.p :: I S.col.i :: I S.col.sh.refs :: I S.col.sh.nums :: I S.col.v :: I S.col.f :: I S.col.src :: I S.col.dst :: I S.col.size :: I S.col.word ::
 evV S g :: .bool S.used :: []
def Dh (l:List Thr) (rv:List Value):List Value:=(List.zipWith Ad l rv).flatten
def AY (p:Nat) (S:Sim) (g:Img):Chs:=
 (p,C BZ (Br S g)) :: (g.wb,C Ac (S.AB.map I ++ g.wsp)) :: (g.tb,C AI (Ab eRg S.A0 ++ g.tsp)) :: (g.mb,C BK (S.AR.map Value.bool ++ g.msp)) :: (g.hb,C AV (Dh S.th g.rv ++ g.hsp)) :: evD S g
structure Ok (R:RM) (S:Sim) (g:Img):Prop where
 AX:EA R g.AX S.AX
 old:BC R g.old S.old
 AO:BC R g.AO S.AO
 AG:BC R g.AG S.col.AG
 rvl:g.rv.length = S.th.length
 rv:∀i (h:i < S.th.length) (h' : i < g.rv.length),BC R (g.rv[i]) (S.th[i]).AD
 ev0:g.ev = none→S.ev = []
 ev1:∀b c,g.ev = some (b,c)→S.ev.length≤c∧g.esp.length = (c - S.ev.length) * 4
 wl:S.AB.length≤1000
 tl:S.A0.length≤1000
 ml:S.AR.length≤1000
 hl:S.th.length≤1000
 fl:flat g.Ag = true∧flat g.want = true∧flat g.AA = true
 wk:S.AB.length≤g.wc
 tk:S.A0.length≤g.tc
 mk_:S.AR.length≤g.mc
theorem Ok.le {R R' : RM} {S:Sim} {g:Img} (h:R.le R') (H:Ok R S g):Ok R' S g:=by
 refine⟨?_,H.old.le h,H.AO.le h,H.AG.le h,H.rvl,λi h1 h2=>(H.rv i h1 h2).le h,H.ev0,H.ev1,H.wl,H.tl,H.ml,H.hl,H.fl,H.wk,H.tk,H.mk_⟩;obtain⟨vs,h1,h2,h3⟩:=H.AX;exact⟨vs,h1.le h,h2,λi hi=>by obtain⟨x,hx,ho⟩:=h3 i hi;exact⟨x,hx,ho.le h⟩⟩
def Ci (p:Nat) (S' : Sim) (r:Value→Prop) (v:Value) (R' : RM) (A:Chs):Prop:=r v∧∃g',A = AY p S' g'∧Ok R' S' g'
instance (priority:=low) At.appr (A F:Chs) (b:Nat) (o:Obj) [t:At F b o]:At (A ++ F) b o:=⟨ZZ _ t.m⟩
instance (priority:=low) Up.appr (A D:Chs) (b:Nat) (o o' : Obj) (D' : Chs) [t:Up D b o o' D']:Up (A ++ D) b o o' (A ++ D'):=
 ⟨ZZ _ t.m,ZZ _ t.m',by simp[t.f],λb' x h=>by
  rcases ZD.1 h with h | h
  ·exact .inr (ZS _ h)
  ·rcases t.u b' x h with h | h
   ·exact .inl h
   ·exact .inr (ZZ _ h)⟩
instance (priority:=low) Tk.appr (A D:Chs) (b:Nat) (o:Obj) (E:Chs) [t:Tk D b o E]:Tk (A ++ D) b o (A ++ E):=
 ⟨(t.p.append_left A).trans ZG⟩
instance Sp.pre (A F:Chs):Sp (A ++ F) A F:=⟨ZP _⟩
instance (priority:=low) Sp.skip (c:Nat × Obj) (D A F:Chs) [s:Sp D A F]:Sp (c :: D) A (c :: F):=⟨(s.p.cons c).trans (ZG.symm)⟩
instance (priority:=low) Sp.self (A:Chs):Sp A A []:=⟨by simp⟩
instance (priority:=low) Sf.appl (X G F:Chs) [s:Sf G F]:Sf (X ++ G) F:=⟨by obtain⟨Y,h⟩:=s.p;exact⟨X ++ Y,by rw[h,Ys]⟩⟩
section sim
variable (p:Nat) (S:Sim) (g:Img)
instance At.sim:At (AY p S g) p (C BZ (Br S g)):=⟨by simp[AY]⟩
instance At.AB:At (AY p S g) g.wb (C Ac (S.AB.map I ++ g.wsp)):=⟨by simp[AY]⟩
instance At.A0:At (AY p S g) g.tb (C AI (Ab eRg S.A0 ++ g.tsp)):=⟨by simp[AY]⟩
instance At.AR:At (AY p S g) g.mb (C BK (S.AR.map Value.bool ++ g.msp)):=⟨by simp[AY]⟩
instance At.ths:At (AY p S g) g.hb (C AV (Dh S.th g.rv ++ g.hsp)):=⟨by simp[AY]⟩
end sim
class Fd (D:Chs) (p:Nat) (S:outParam Sim) (g:outParam Img) (G:outParam Chs):Prop where
 ex:D.Perm (AY p S g ++ G)
instance Fd.front (p:Nat) (S:Sim) (g:Img) (F:Chs):Fd (AY p S g ++ F) p S g F:=⟨ZP _⟩
instance Fd.self (p:Nat) (S:Sim) (g:Img):Fd (AY p S g) p S g []:=⟨by simp⟩
instance (priority:=low) Fd.cons (c:Nat × Obj) (D G:Chs) (p:Nat) (S:Sim) (g:Img) [w:Fd D p S g G]:Fd (c :: D) p S g (c :: G):=⟨(w.ex.cons c).trans ZG.symm⟩
instance (priority:=low) Fd.appr (A D G:Chs) (p:Nat) (S:Sim) (g:Img) [w:Fd D p S g G]:Fd (A ++ D) p S g (A ++ G):=
 ⟨(w.ex.append_left A).trans (by rw[← Ys,← Ys];exact aG G aB)⟩
theorem GS {cs:List Value} {o:Nat} {v:Value} (h:o < cs.length):lay cs o [v] = cs.set o v:=by
 simp only[lay,Z4];rw[List.set_eq_take_append_cons_drop,if_pos h];simp
section stores
variable {R:RM} {D G:Chs} {p:Nat} {S:Sim} {g:Img} {m:M}
theorem jss {o n:Nat} {x:Value} (S' : Sim) (g' : Img) [w:Fd D p S g G] (hn:(cl x).length = n) (hf:CG (cl x) = true) (ho:o + n≤35) (hc:lay (Br S g) o (cl x) = Br S' g')
  (hb:(AY p S g).tail = (AY p S' g').tail) (H:J R (AY p S' g' ++ G) m):J R D (ST n (.pointer (some ⟨p,o,none⟩)) x m):=by
 intro h hs;refine js (R:=R) (D:=AY p S g ++ G) (t:=BZ) (cs:=Br S g) (cs':=Br S' g') (D':=AY p S' g' ++ G) hn hf ho hc H h (hs.perm w.ex) (u:=?_);have e1:AY p S g = (p,C BZ (Br S g)) :: (AY p S' g').tail:=by rw[← hb];rfl
 have e2:AY p S' g' = (p,C BZ (Br S' g')) :: (AY p S' g').tail:=rfl;rw[e1,e2];exact inferInstance
theorem jsw {i:Nat} {v:Int} (S' : Sim) [w:Fd D p S g G] (hi:i < S.AB.length) (hS:S' = { S with AB:=S.AB.set i v }) (H:J R (AY p S' g ++ G) m):J R D (ST 1 (.pointer (some ⟨g.wb,i,none⟩)) (I v) m):=by
 subst hS;intro h hs;refine js (R:=R) (D:=AY p S g ++ G) (t:=Ac) (cs:=S.AB.map I ++ g.wsp) (cs':=(S.AB.set i v).map I ++ g.wsp) (D':=AY p { S with AB:=S.AB.set i v } g ++ G) rfl rfl (by simp;omega) ?_ H h (hs.perm w.ex) (u:=?_)
 ·rw[show cl (I v) = [I v] from rfl,GS (by simp;omega),List.set_append_left _ _ (by simpa using hi),List.map_set]
 ·have e1:Br { S with AB:=S.AB.set i v } g = Br S g:=by simp[Br,evV]
  unfold AY evD;rw[e1];exact inferInstance
theorem Ar {S' : Sim} {R0:RM} {F:Chs} {r:Value→Prop} {v:Value} [w:Fd D p S g G] (h1:R0.le R) (h2:r v) (hS:S = S') (ok:Ok R S' g) [x:Sf G F]:J R D (Er R0 F (Ci p S' r) v):=by
 subst hS;intro h hs;exact BA (D:=AY p S g ++ G) h1 ⟨h2,g,rfl,ok⟩ h (hs.perm w.ex)
end stores
theorem HR {ws:List Int} {sp:List Value} {i:Nat} (h:i < ws.length):(ws.map I ++ sp)[i]? = some (I (ws[i])):=by
 rw[Zp (by simpa using h)];simp[h]
theorem Iz {ws:List Bool} {sp:List Value} {i:Nat} (h:i < ws.length):(ws.map Value.bool ++ sp)[i]? = some (.bool (ws[i])):=by
 rw[Zp (by simpa using h)];simp[h]
theorem Ap {α:Type} {l:List α} {i:Int} {v:α} (h:idx l i = some v):0≤i∧i < l.length∧∃hi:i.toNat < l.length,l[i.toNat] = v:=by
 unfold idx at h;split at h
 ·obtain⟨hi,he⟩:=ZI.1 h;exact⟨‹_›,by omega,hi,he⟩
 ·cases h
theorem CE {w:Nat}:∀{ls:List (List Value)},(∀x∈ls,x.length = w)→ls.flatten.length = ls.length * w:=by
 intro ls;induction ls with
 | nil=>intro _;simp
 | cons a r ih=>
  intro h;rw[Zo,Yn,ih λx hx=>h x (by simp[hx]),h a (by simp),Z8,Nat.add_mul];omega
theorem PL {w:Nat} {sp:List Value}:∀{ls:List (List Value)} (i:Nat) (hi:i < ls.length),(∀x∈ls,x.length = w)→((ls.flatten ++ sp).drop (i * w)).take w = ls[i]:=by
 intro ls;induction ls with
 | nil=>intro i hi;simp at hi
 | cons a r ih=>
  intro i hi h;have ha:a.length = w:=h a (by simp);cases i with
  | zero=>
   rw[aR,aD,Zo,Ys,Zd (by omega),← ha,List.take_length];rfl
  | succ i=>
   rw[Zo,Ys,Nat.add_mul,Nat.one_mul,List.drop_append,Z2 (by rw[ha];exact Nat.le_add_left _ _),zl,ha,Nat.add_sub_cancel];simpa using ih i (by simpa using hi) λx hx=>h x (by simp[hx])
theorem GP {a b l:List Value} {o:Nat} (h:a.length≤o):lay (a ++ b) o l = a ++ lay b (o - a.length) l:=by
 simp only[lay];rw[List.take_append,Yz h,List.drop_append,Z2 (by omega),zl];rw[show o + l.length - a.length = o - a.length + l.length from by omega];simp[Ys]
theorem Rh {a b l:List Value} (h:l.length = a.length):lay (a ++ b) 0 l = l ++ b:=by
 simp only[lay,List.take_zero,zl,Z6,h,List.drop_left]
theorem PQ {w:Nat} {sp x:List Value} (hx:x.length = w):∀{ls:List (List Value)} (i:Nat),i < ls.length→(∀x∈ls,x.length = w)→lay (ls.flatten ++ sp) (i * w) x = (ls.set i x).flatten ++ sp:=by
 intro ls;induction ls with
 | nil=>intro i hi;simp at hi
 | cons a r ih=>
  intro i hi h;have ha:a.length = w:=h a (by simp);cases i with
  | zero=>rw[aR,Zo,Ys,Rh (by omega)];simp
  | succ i=>
   rw[Zo,Ys,GP (by rw[ha,Nat.add_mul,Nat.one_mul];exact Nat.le_add_left _ _),ha,Nat.add_mul,Nat.one_mul,Nat.add_sub_cancel,ih i (by simpa using hi) λx hx=>h x (by simp[hx])];simp
theorem UX (t:Thr) (v:Value):(Ad t v).length = 17:=rfl
theorem O1 {l:List Thr} {rv:List Value}:∀x∈List.zipWith Ad l rv,x.length = 17:=by
 intro x hx;obtain⟨n,hn,rfl⟩:=ZH hx;rw[List.getElem_zipWith];rfl
theorem S6 {l:List Thr} {rv sp:List Value} {i:Nat} (h:i < l.length) (h' : i < rv.length):((Dh l rv ++ sp).drop (i * 17)).take 17 = Ad (l[i]) (rv[i]):=by
 rw[Dh,PL i (by simp;omega) O1,List.getElem_zipWith]
theorem VU {l:List Thr} {rv sp:List Value} {i:Nat} {t:Thr} {v:Value} (h:i < l.length) (h' : i < rv.length):lay (Dh l rv ++ sp) (i * 17) (Ad t v) = Dh (l.set i t) (rv.set i v) ++ sp:=by
 rw[Dh,PQ (UX t v) i (by simp;omega) O1,Dh];congr 2;apply List.ext_getElem?;intro n;simp only[List.getElem?_set,List.getElem?_zipWith,List.length_zipWith];by_cases hn:i = n
 ·subst hn;rw[if_pos rfl,if_pos (by omega),if_pos rfl,if_pos h,if_pos rfl,if_pos h']
 ·rw[if_neg hn,if_neg hn,if_neg hn]
theorem Ph {l:List Thr} {rv:List Value} (h:rv.length = l.length):(Dh l rv).length = l.length * 17:=by
 rw[Dh,CE O1];simp[h]
theorem Iq {α:Type} {f:α→List Value} {w:Nat} (hf:∀x,(f x).length = w) {l:List α}:∀x∈l.map f,x.length = w:=by
 intro x hx;obtain⟨a,_,rfl⟩:=ZU.1 hx;exact hf a
theorem DB {α:Type} {f:α→List Value} {w:Nat} (hf:∀x,(f x).length = w) {l:List α} {sp:List Value} {i:Nat} (h:i < l.length):((Ab f l ++ sp).drop (i * w)).take w = f (l[i]):=by
 rw[Ab,PL i (by simpa using h) (Iq hf)];simp
theorem NB {α:Type} {f:α→List Value} {w:Nat} (hf:∀x,(f x).length = w) {l:List α} {sp:List Value} {i:Nat} {x:α} (h:i < l.length):lay (Ab f l ++ sp) (i * w) (f x) = Ab f (l.set i x) ++ sp:=by
 rw[Ab,PQ (hf x) i (by simpa using h) (Iq hf),Ab,List.map_set]
theorem Ds {α:Type} {f:α→List Value} {w:Nat} (hf:∀x,(f x).length = w) (l:List α):(Ab f l).length = l.length * w:=by
 rw[Ab,CE (Iq hf)];simp
section AA
variable {R:RM} {D G:Chs} {p:Nat} {S:Sim} {g:Img} {m:M} {k:Value→M}
theorem VQ (S:Sim) (g:Img) (th:List Thr) (rv:List Value) (h:th.length = S.th.length):Br { S with th:=th } { g with rv:=rv } = Br S g:=by simp[Br,evV,h]
theorem Vh {i:Nat} [w:Fd D p S g G] (hi:i < S.th.length) (hr:g.rv.length = S.th.length) (H:J R D (k (.agg (Ad (S.th[i]) (g.rv[i]'(by omega))).toArray))):J R D (LA 17 (.pointer (some ⟨g.hb,0 + i * 17,none⟩)) k):=by
 intro h hs;rw[Z6];refine jla (R:=R) (D:=AY p S g ++ G) (t:=AV) (cs:=Dh S.th g.rv ++ g.hsp) (k:=λv h=>k v h) ?_ (S6 hi (by omega)) (λh' hs'=>H h' (hs'.perm w.ex.symm)) h (hs.perm w.ex);rw[Yn,Ph hr];omega
theorem jst {i:Nat} {t:Thr} {v:Value} (S' : Sim) (g' : Img) [w:Fd D p S g G] (hi:i < S.th.length) (hr:g.rv.length = S.th.length) (hv:flat v = true) (hS:S' = { S with th:=S.th.set i t }) (hg:g' = { g with rv:=g.rv.set i v })
  (H:J R (AY p S' g' ++ G) m):J R D (ST 17 (.pointer (some ⟨g.hb,0 + i * 17,none⟩)) (.agg (Ad t v).toArray) m):=by
 subst hS hg;intro h hs;rw[Z6];refine js (R:=R) (D:=AY p S g ++ G) (t:=AV) (cs:=Dh S.th g.rv ++ g.hsp) (cs':=Dh (S.th.set i t) (g.rv.set i v) ++ g.hsp) (D':=AY p { S with th:=S.th.set i t } { g with rv:=g.rv.set i v } ++ G) rfl ?_ ?_ (VU hi (by omega)) H h (hs.perm w.ex) (u:=?_)
 ·show (flat v && true) = true;rw[hv];rfl
 ·show i * 17 + 17≤_;rw[Yn,Ph hr];omega
 ·have e1:=VQ S g (S.th.set i t) (g.rv.set i v) (by simp);unfold AY evD;rw[e1];exact inferInstance
end AA
theorem Ok.setT {R:RM} {S:Sim} {g:Img} (H:Ok R S g) {i:Nat} {t:Thr} {v:Value} (hv:BC R v t.AD):Ok R { S with th:=S.th.set i t } { g with rv:=g.rv.set i v }:=by
 refine⟨H.AX,H.old,H.AO,H.AG,by simp[H.rvl],λj h1 h2=>?_,H.ev0,H.ev1,H.wl,H.tl,H.ml,by simpa using H.hl,H.fl,H.wk,H.tk,H.mk_⟩;simp only[ZX] at h1 h2;simp only[List.getElem_set];by_cases hij:i = j
 ·simp only[if_pos hij];exact hv
 ·simp only[if_neg hij];exact H.rv j h1 h2
theorem St.le {h:Cy} {R R' : RM} {D:Chs} (hr:R.le R') (hs:St h R' D):St h R D:=by
 refine⟨λb o hb=>hs.rd b o (hr b o hb),λb o hm=>⟨(hs.at_ b o hm).1,?_⟩,hs.nd⟩;cases hb:R b with
 | none=>rfl
 | some x=>have:=hr b x hb;rw[(hs.at_ b o hm).2] at this;cases this
def Pu (f:Nat) (args:List Value) (v:Value):Prop:=∀R,Fn P f args R [] λv' _ _=>v' = v
theorem jp {f:Nat} {args:List Value} {v:Value} {R:RM} {D:Chs} {k:Value→M} (hF:Pu f args v) (H:J R D (k v)):J R D (CA P f args k):=by
 intro h hs;refine EW ?_ (hF R D h hs);rintro v' h' ⟨R',A',h1,h2,h3⟩;subst h3;exact H h' (h2.drop.le h1)
section lit
variable {R:RM} {D:Chs} {k:Value→M} {a b:M} {x y:Value}
theorem ED (H:J R D (k x)):J R D (PK (.bool true) x y k):=H
theorem EC (H:J R D (k y)):J R D (PK (.bool false) x y k):=H
theorem jtt (H:J R D a):J R D (GT (.bool true) true a b):=H
theorem jft (H:J R D b):J R D (GT (.bool false) true a b):=H
theorem jtf (H:J R D b):J R D (GT (.bool true) false a b):=H
theorem jff (H:J R D a):J R D (GT (.bool false) false a b):=H
end lit
theorem CJ (a:Int) (h:AS a≤9223372036854775807):Pu IC [I a] (I (AS a)):=by
 intro R;refine OI λF=>?_
 unfold II;refine jlt ?_;refine jif (λhc=>?_) (λhc=>?_)
 ·refine BA (A:=[]) (RM.le.refl R) ?_;have:=z_f hc;rw[AS,if_pos this]
 ·have:=z_g hc;have e:a.tdiv 16 = a / 16:=Ze (by omega);refine OL (by decide) (by rw[e];rw[AS,if_neg this] at h;constructor<;>omega) ?_;refine BA (A:=[]) (RM.le.refl R) ?_;rw[AS,if_neg this,e]
theorem IJ (r:Int) (R:RM) (F:Chs):J R ([] ++ F) (EQ (I r) (Er R F λv' _ _=>v' = I (AM r))):=by
 unfold EQ;refine Ct (jlt (BM (λhc=>jge (CH λe he=>?_)) (λhc=>CH λe he=>?_)))<;>
  simp only[List.map,zj,z_t] at he<;>simp only[he,hc,cond_true,cond_false]
 ·refine jif (λhd=>?_) (λhd=>?_)
  ·refine BA (A:=[]) (RM.le.refl R) ?_;have:=z_f hd;rw[AM,if_pos (.inr this)]
  ·have h1:=z_g hd;have h2:=z_g hc;refine GX (by constructor<;>omega) ?_;refine BA (A:=[]) (RM.le.refl R) ?_;rw[AM,if_neg (by omega)]
 ·refine ED (DO ?_);refine BA (A:=[]) (RM.le.refl R) ?_;have:=z_f hc;rw[AM,if_pos (.inl this)]
theorem BV (r:Int):Pu GL [I r] (I (AM r)):=λR=>LL λF=>IJ r R F
@[reducible] def eSh (s:Shp):Value:=.agg #[I s.refs,I s.nums]
theorem NS (s:Shp) (R:RM) (F:Chs):J R ([] ++ F) (G9 (eSh s) (Er R F λv' _ _=>v' = .bool (BG s))):=by
 unfold G9;refine ja λb=>?_
 have fin:∀c,c = BG s→J R ((b,C FI [I s.refs,I s.nums]) :: ([] ++ F)) (Er R F (λv' _ _=>v' = Value.bool (BG s)) (.bool c)):=λc hc=>BA (A:=[]) (RM.le.refl R) (by rw[hc])
 refine Ct (jl rfl (jge (Bm (λh1=>jl rfl (jle (CH λe he=>?_))) (λh1=>CH λe he=>?_))))<;>
  simp only[List.map,zj,z_t,h1] at he<;>simp only[he]
 ·refine Ct (ED (Bm (λh2=>jl rfl (jge (CH λe he=>?_))) (λh2=>CH λe he=>?_)))<;>
   simp only[List.map,zj,z_t,h2] at he<;>simp only[he]
  ·refine Ct (ED (Bm (λh3=>jl rfl (jle (CH λe he=>?_))) (λh3=>CH λe he=>?_)))<;>
    simp only[List.map,zj,z_t,h3] at he<;>simp only[he]
   ·refine ED (fin _ ?_);simp at h1 h2 h3;simp[BG,h1,h2,h3]
   ·refine EC (fin _ ?_);simp at h1 h2 h3;simp[BG,h1,h2];omega
  ·refine Ct (EC (jft (CH λe he=>?_)));simp only[List.map,zj,z_t] at he;simp only[he];refine EC (fin _ ?_);simp at h1 h2;simp[BG,h1];omega
 ·refine Ct (EC (jft (CH λe he=>?_)));simp only[List.map,zj,z_t] at he;simp only[he];refine Ct (EC (jft (CH λe he=>?_)));simp only[List.map,zj,z_t] at he;simp only[he];refine EC (fin _ ?_);simp at h1;simp[BG];omega
theorem Ii (s:Shp):Pu JK [eSh s] (.bool (BG s)):=λR=>PW λF=>NS s R F
theorem E4 {s:Shp}:BG s = true↔0≤s.refs∧s.refs≤4∧0≤s.nums∧s.nums≤4:=by simp[BG,and_assoc]
theorem E2 (s:Shp):Pu Ge [eSh s] (I (Am s)):=by
 intro R;refine Ma λF=>?_
 unfold Gq;refine ja λb=>jla (l:=[I s.refs,I s.nums]) (by simp) rfl (jp (Ii s) ?_)
 refine jif (λh=>?_) (λh=>?_)
 ·refine BA (A:=[]) (RM.le.refl _) ?_;simp only[Z7] at h;simp[Am,h]
 ·simp only[ZJ] at h;obtain⟨h0,h1,h2,h3⟩:=E4.1 h;refine jl rfl ?_;refine GX ⟨by omega,by omega⟩ ?_;refine jl rfl ?_;refine jad ?_;refine BA (A:=[]) (RM.le.refl _) ?_;simp[Am,h]
theorem CC (s:Shp):Pu GY [eSh s] (I (AF s)):=by
 intro R;refine MZ λF=>?_
 unfold Gm;refine ja λb=>jla (l:=[I s.refs,I s.nums]) (by simp) rfl (jp (Ii s) ?_)
 refine jif (λh=>?_) (λh=>?_)
 ·refine BA (A:=[]) (RM.le.refl _) ?_;simp only[Z7] at h;simp[AF,h]
 ·simp only[ZJ] at h;obtain⟨h0,h1,h2,h3⟩:=E4.1 h;refine jl rfl ?_;refine jad ?_;refine jl rfl ?_;refine jad ?_;refine BA (A:=[]) (RM.le.refl _) ?_;simp[AF,h]
theorem C4 {R:RM} {c:Nat × Obj} {D:Chs} {m:M} (H:J R D m):J R (c :: D) m:=λh hs=>H h (St.drop (A:=[c]) hs)
theorem EH (w:Int):Pu Jg [I w] (.tuple #[eSh (AH w).1,.bool (AH w).2]):=by
 intro R;refine Q5 λF=>?_
 unfold JB;refine ja λb=>?_
 refine Ct (Ct ?_);refine jlp (λn vs R' D'=>R' = R∧D' = (b,C FI [I 0,I 0]) :: ([] ++ F)∧∃r:Nat,r≤5∧vs = [I w,Pt b,I r]∧n = 5 - r∧∀r' n' : Nat,r' < r→n'≤4→(16 * r' + n' : Int)≠w)
  (n:=5) ⟨rfl,rfl,0,by omega,rfl,rfl,λr' n' h=>by omega⟩ ?_
 rintro n e R' D' K ⟨rfl,rfl,r,hr,he,hn,Bp⟩ hK;simp only[List.map,zj,z_t] at he;simp only[he];refine jle ?_;refine jif (λhc=>?_) (λhc=>?_)
 ·have hc:=z_f hc;refine Ct (Ct (Ct ?_));refine jlp (λm vs R2 D'=>R2 = R'∧D' = (b,C FI [I 0,I 0]) :: ([] ++ F)∧∃k:Nat,k≤5∧vs = [I w,Pt b,I r,I k]∧m = 5 - k∧∀n' : Nat,n' < k→(16 * r + n' : Int)≠w)
   (n:=5) ⟨rfl,rfl,0,by omega,rfl,rfl,λn' h=>by omega⟩ ?_
  rintro m e R' D' K' ⟨rfl,rfl,k,hk,he,hm,hall'⟩ hK';simp only[List.map,zj,z_t] at he;simp only[he];refine jle ?_;refine jif (λhd=>?_) (λhd=>?_)
  ·have hd:=z_f hd;refine jbd (cs:=[I r,I k]) rfl rfl ?_;refine ja λb'=>?_
   refine js (cs':=[I r,I k]) rfl rfl (by simp) rfl ?_;refine jla (l:=[I r,I k]) (by simp) rfl (jp (E2 ⟨r,k⟩) ?_);refine jeq ?_;have hok:BG ⟨r,k⟩ = true:=E4.2 ⟨by simp only[];omega,by simp only[];omega,by simp only[];omega,by simp only[];omega⟩;have hsw:Am ⟨r,k⟩ = 16 * r + k:=by simp[Am,hok]
   refine jif (λhw=>?_) (λhw=>?_)
   ·have hw:(16 * r + k:Int) = w:=by rw[← hsw];exact eq_of_beq hw
    refine jla (l:=[I r,I k]) (by simp) rfl ?_;refine js (cs':=[I r,I k]) rfl rfl (by simp) rfl ?_;refine jla (l:=[I r,I k]) (by simp) rfl ?_;refine BA (A:=[]) (RM.le.refl _) ?_;have e1:w / 16 = r:=by omega
    have e2:w % 16 = k:=by omega
    have:AH w = (⟨r,k⟩,true):=by
     rw[AH,if_pos (by omega),e1,e2]
    rw[this]
   ·have hw:(16 * r + k:Int)≠w:=by rw[← hsw];intro hh;rw[hh] at hw;simp at hw
    refine jad ?_;refine C4 ?_;refine hK' (5 - (k + 1)) _ _ _ (by omega) ⟨rfl,rfl,k + 1,by omega,by simp,rfl,λn' h=>?_⟩;by_cases h' : n' = k
    ·subst h';exact hw
    ·exact hall' n' (by omega)
  ·have hd:=z_g hd;refine CH λe he=>?_
   simp only[List.map,zj,z_t] at he;simp only[he];refine CH λe he=>?_
   simp only[List.map,zj,z_t] at he;simp only[he];refine CH λe he=>?_
   simp only[List.map,zj,z_t] at he;simp only[he];refine jad ?_;refine hK (5 - (r + 1)) _ _ _ (by omega) ⟨rfl,rfl,r + 1,by omega,by simp,rfl,λr' n' h h2=>?_⟩;by_cases h' : r' = r
   ·subst h';exact hall' n' (by omega)
   ·exact Bp r' n' (by omega) h2
 ·have hc:=z_g hc;refine CH λe he=>?_
  simp only[List.map,zj,z_t] at he;simp only[he];refine CH λe he=>?_
  simp only[List.map,zj,z_t] at he;simp only[he];refine jbd (cs:=[I 0,I 0]) rfl rfl ?_;refine js (cs':=[I 0,I 0]) rfl rfl (by simp) rfl ?_;refine jla (l:=[I 0,I 0]) (by simp) rfl ?_;refine BA (A:=[]) (RM.le.refl _) ?_;have:AH w = (Sy,false):=by
   rw[AH,if_neg];intro hh;exact Bp (w / 16).toNat (w % 16).toNat (by omega) (by omega) (by omega)
  rw[this];rfl
theorem Cm {p:Nat} {S S' : Sim} {g:Img} {a v:Int} {R:RM} (hok:Ok R S g) (hS:S.read a = some (v,S')):Fn P La [Pt p,I a] R (AY p S g) (Ci p S' (· = I v)):=by
 refine QJ λF=>?_
 unfold MB;simp only[Sim.read] at hS;split at hS
 ·rename_i v' hv;simp only[Yr,Prod.mk.injEq] at hS;obtain⟨rfl,rfl⟩:=hS;obtain⟨h0,h1,h2,h3⟩:=Ap hv;refine jss { S with used:=true } g rfl rfl (by decide) (by rfl) (by rfl) ?_;refine jl rfl ?_;refine jia h0 h1 ?_;refine jl (by rw[Z6,Zt];exact HR h2) ?_;exact Ar (RM.le.refl R) (by rw[← h3]) rfl { hok with }
 ·cases hS
theorem DN {p:Nat} {S S' : Sim} {g:Img} {a v:Int} {R:RM} (hok:Ok R S g) (hS:S.write a v = some S'):Fn P J6 [Pt p,I a,I v] R (AY p S g) (Ci p S' λ_=>True):=by
 refine Pb λF=>?_
 unfold Jo;simp only[Sim.write] at hS;split at hS
 ·rename_i hv;simp only[Yr] at hS;subst hS;refine jss { S with used:=true } g rfl rfl (by decide) (by rfl) (by rfl) ?_;refine jl rfl ?_;refine jia hv.1 hv.2 ?_;rw[Z6,Zt];refine jsw (p:=p) { S with used:=true,AB:=AW S.AB a v } (by show a.toNat < S.AB.length;omega) (by rfl) ?_;exact Ar (RM.le.refl R) trivial rfl { hok with wl:=by simpa [AW] using hok.wl,wk:=by simpa [AW] using hok.wk }
 ·cases hS
theorem Kb {p:Nat} {S:Sim} {g:Img} {a:Int} {b:Bool} {R:RM} (hok:Ok R S g) (hS:S.from_ a = some b):Fn P HC [Pt p,I a] R (AY p S g) (Ci p S (· = .bool b)):=by
 refine RX λF=>?_
 unfold Lp;simp only[Sim.from_] at hS;refine Ct (Ct (jne (Bm (λh=>?_) (λh=>?_))))
 ·have ha:a≠0:=by simpa using h
  rw[if_neg ha] at hS;split at hS
  ·rename_i x hx;obtain⟨h0,h1,h2,h3⟩:=Ap hx;have hl:=hok.tl;cases hS;refine jl rfl (CH λe he=>?_);simp only[List.map,zj,z_t,h] at he;simp only[he];refine jtt (jp (CJ a (by omega)) ?_);refine jia h0 h1 ?_;refine jl (o:=0 + (AS a).toNat * 5 + 0) (v:=I x.kind) ?_ (jeq (ED (Ae (jl rfl jev) (CH λe he=>?_))))
   ·have:=DB (f:=eRg) (w:=5) (λ_=>rfl) (sp:=g.tsp) h2;rw[h3] at this;have e2:=congrArg (λl=>l[0]?) this;simp only[Zr,Zl] at e2;simpa using e2
   ·simp only[List.map,zj,z_t] at he;simp only[he];exact Ar (RM.le.refl R) rfl rfl hok
  ·cases hS
 ·have ha:a = 0:=by simpa using h
  rw[if_pos ha] at hS;cases hS;refine CH λe he=>?_
  simp only[List.map,zj,z_t,h] at he;simp only[he];refine jft (EC (Ae jev (CH λe he=>?_)));simp only[List.map,zj,z_t] at he;simp only[he];exact Ar (RM.le.refl R) rfl rfl hok
theorem Fz.reads {R:RM} {D:Chs} {v:Value} {w n:Nat} {cells:List Value} (H:Fz R v w n cells):∃a cap,v = .slice a n cap∧BQ R D a (n * w) cells:=by
 rcases H with ⟨h1,h2,h3⟩ | ⟨b,o,cap,t,cs,h1,h2,h3,h4,h5⟩
 ·subst h1 h2 h3;exact⟨none,0,rfl,by rw[aR];exact BQ.none_⟩
 ·exact⟨_,cap,h1,by rw[← h4];exact BQ.frozen h2 h3⟩
def Um (l:List Int) (v:Value) (A:Chs):Prop:=∃b c sp,l.length≤c∧sp.length = c - l.length∧v = S0 b l.length c∧A = [(b,C Ac (l.map I ++ sp))]
theorem C9 {v:Value} {l:List Int} {R:RM} (h:BC R v l) (hl:l.length < 1000000):Fn P Kc [v] R [] (λv' _ A=>Um l v' A):=by
 refine QZ λF=>?_
 unfold Lc;obtain⟨a,cap,rfl,hr⟩:=Fz.reads (D:=[]) h;refine jbs (cs:=[]) rfl rfl λb=>?_
 refine Ve (new:=l.map I) ?_ (by decide) (by omega) (λ_=>rfl) (λh0=>?_) (λb' c hc=>?_)
 ·intro h' hs';exact hr h' (St.drop (A:=(b,C 3 []) :: ([] ++ F)) (by simpa using hs'))
 ·have hl0:l = []:=ZK.1 h0;refine BA (RM.le.refl R) (A:=[(b,C Ac [])]) ⟨b,0,[],by simp[hl0],by simp,by simp[hl0],by simp[hl0]⟩
 ·refine BA (RM.le.refl R) (A:=[(b',C Ac (l.map I ++ (List.replicate (c - l.length) (cl z3)).flatten))]) ⟨b',c,_,hc,?_,rfl,rfl⟩;rw[CE (w:=1) (by intro x hx;rw[(Za.1 hx).2];rfl)];simp
theorem Ai {R:RM} {D E G:Chs} {m:M} (A:Chs) [s:Sp D A E] [x:Sf E G] (H:J R (A ++ G) m):J R D m:=by
 intro h hs;obtain⟨X,hX⟩:=x.p;have h1:=hs.perm s.p;subst hX;have:St h R (X ++ (A ++ G)):=h1.perm (by
  rw[← Ys,← Ys]
  exact aG G aB)
 exact H h this.drop
theorem LE {α:Type} (f:α→List Value) (l:List α) (x:α):Ab f (l ++ [x]) = Ab f l ++ f x:=by simp[Ab]
theorem BH {R:RM} {D D' : Chs} {m:M} (hp:D.Perm D') (H:J R D' m):J R D m:=λh hs=>H h (hs.perm hp)
theorem Vo {R:RM} {D G:Chs} {p b c:Nat} {S:Sim} {g:Img} {evs:List Ev} {sp:List Value} {m:M} [w:Fd D p S g G]
  (H:J R (AY p { S with ev:=evs } { g with ev:=some (b,c),esp:=sp } ++ G) m) :
  J R ((b,C Dl (Ab eEv evs ++ sp)) :: D) (ST 1 (.pointer (some ⟨p,33,none⟩)) (S0 b evs.length c) m):=by
 refine BH ((w.ex.cons _).trans ZG.symm) ?_;refine js (D:=AY p S g ++ (b,C Dl (Ab eEv evs ++ sp)) :: G) (t:=BZ) (cs:=Br S g) (cs':=Br { S with ev:=evs } { g with ev:=some (b,c),esp:=sp }) (D':=(p,C BZ (Br { S with ev:=evs } { g with ev:=some (b,c),esp:=sp })) :: ((g.wb,C Ac (S.AB.map I ++ g.wsp)) :: (g.tb,C AI (Ab eRg S.A0 ++ g.tsp)) :: (g.mb,C BK (S.AR.map Value.bool ++ g.msp)) :: (g.hb,C AV (Dh S.th g.rv ++ g.hsp)) :: evD S g ++ (b,C Dl (Ab eEv evs ++ sp)) :: G)) rfl rfl (by simp[Br]) rfl ?_ (u:=?_);rotate_left
 ·refine Ai [(p,C BZ (Br { S with ev:=evs } { g with ev:=some (b,c),esp:=sp })),(g.wb,C Ac (S.AB.map I ++ g.wsp)),(g.tb,C AI (Ab eRg S.A0 ++ g.tsp)),(g.mb,C BK (S.AR.map Value.bool ++ g.msp)),(g.hb,C AV (Dh S.th g.rv ++ g.hsp)),(b,C Dl (Ab eEv evs ++ sp))] (G:=G) ?_;exact H
 ·unfold AY;exact inferInstance
theorem WF {R:RM} {D G:Chs} {p:Nat} {S:Sim} {g:Img} {e:Ev} {cx:Nat} {xa:Option Addr} {zs:List Value} {m:M} (hz:zs.length = 4) [w:Fd D p S g G] (hok:Ok R S g) (hl:S.ev.length < 1000000) (hx:BQ R D xa (1 * 4) (eEv e))
  (H:∀g',Ok R { S with ev:=S.ev ++ [e] } g'→J R (AY p { S with ev:=S.ev ++ [e] } g' ++ G) m) :
  J R D (AP Dl 4 32 zs (evV S g) (.slice xa 1 cx) λx=>ST 1 (.pointer (some ⟨p,33,none⟩)) x m):=by
 have spl:∀c,(List.replicate (c - (S.ev.length + 1)) zs).flatten.length = (c - (S.ev.length + 1)) * 4:=λc=>by
  rw[CE (w:=4) (by intro x hx;rw[(Za.1 hx).2,hz])];simp
 have okn:∀b c sp,S.ev.length + 1≤c→sp.length = (c - (S.ev.length + 1)) * 4→Ok R { S with ev:=S.ev ++ [e] } { g with ev:=some (b,c),esp:=sp }:=λb c sp h1 h2=>
  { hok with ev0:=(by intro h;cases h),ev1:=(by intro b' c' h;cases h;simp;exact⟨h1,h2⟩) }
 have nxt:∀b c,S.ev.length + 1≤c→J R ((b,C Dl (Ab eEv S.ev ++ eEv e ++ (List.replicate (c - (S.ev.length + 1)) zs).flatten)) :: D) (ST 1 (.pointer (some ⟨p,33,none⟩)) (S0 b (S.ev.length + 1) c) m):=λb c hc=>by
  have:=Vo (D:=D) (p:=p) (b:=b) (c:=c) (evs:=S.ev ++ [e]) (sp:=(List.replicate (c - (S.ev.length + 1)) zs).flatten) (H _ (okn b c _ hc (spl c)));rw[LE] at this;simpa using this
 cases hg:g.ev with
 | none=>
  have h0:=hok.ev0 hg;simp only[evV,hg];refine jap hx (sl:=0) (old:=[]) (by rw[aR];exact BQ.none_) (by decide) (by omega) (λh=>by omega) (λb c hc=>?_);have:=nxt b c (by rw[h0];simpa using hc);rw[h0] at this;simpa [Ab] using this
 | some bc=>
  obtain⟨b,c⟩:=bc;obtain⟨hn,he⟩:=hok.ev1 b c hg;have e1:AY p S g = (p,C BZ (Br S g)) :: (g.wb,C Ac (S.AB.map I ++ g.wsp)) :: (g.tb,C AI (Ab eRg S.A0 ++ g.tsp)) :: (g.mb,C BK (S.AR.map Value.bool ++ g.msp)) :: (g.hb,C AV (Dh S.th g.rv ++ g.hsp)) :: (b,C Dl (Ab eEv S.ev ++ g.esp)) :: []:=by
   simp[AY,evD,hg]
  have hsz:=Ds (f:=eEv) (w:=4) (λ_=>rfl) S.ev;have hD:D.Perm ((b,C Dl (Ab eEv S.ev ++ g.esp)) :: ((p,C BZ (Br S g)) :: (g.wb,C Ac (S.AB.map I ++ g.wsp)) :: (g.tb,C AI (Ab eRg S.A0 ++ g.tsp)) :: (g.mb,C BK (S.AR.map Value.bool ++ g.msp)) :: (g.hb,C AV (Dh S.th g.rv ++ g.hsp)) :: G)):=by
   refine w.ex.trans ?_;rw[e1];simp only[zc,zl];exact (inferInstance:Tk _ b _ _).p
  simp only[evV,hg];refine Uo (E:=_) (tk:=⟨hD⟩) hx ?_ hn rfl rfl (by decide) (by omega) (λhc=>?_) (λb' c' hc=>?_)
  ·rw[Yn,hsz,he,← Nat.add_mul];congr 1;omega
  ·have el:lay (Ab eEv S.ev ++ g.esp) (S.ev.length * 4) (eEv e) = Ab eEv (S.ev ++ [e]) ++ g.esp.drop 4:=by
    rw[GP (by omega),hsz,Nat.sub_self,LE,Ys];simp[lay]
   rw[el];have H':=H { g with esp:=g.esp.drop 4 } { hok with ev0:=(by intro h;exact absurd (hg.symm.trans h) (by simp)),ev1:=(by
    intro b' c' h
    have h2:some (b,c) = some (b',c'):=hg.symm.trans h
    cases h2
    simp only[Yn,Z4,ZO]
    omega) }
   have e2:Br { S with ev:=S.ev ++ [e] } { g with esp:=g.esp.drop 4 } = (Br S g).set 33 (S0 b (S.ev.length + 1) c):=by
    simp[Br,evV,hg]
   have e3:AY p { S with ev:=S.ev ++ [e] } { g with esp:=g.esp.drop 4 } = (p,C BZ ((Br S g).set 33 (S0 b (S.ev.length + 1) c))) :: (g.wb,C Ac (S.AB.map I ++ g.wsp)) :: (g.tb,C AI (Ab eRg S.A0 ++ g.tsp)) :: (g.mb,C BK (S.AR.map Value.bool ++ g.msp)) :: (g.hb,C AV (Dh S.th g.rv ++ g.hsp)) :: (b,C Dl (Ab eEv (S.ev ++ [e]) ++ g.esp.drop 4)) :: []:=by
    rw[← e2];simp[AY,evD,hg]
   rw[e3] at H';refine js (t:=BZ) (cs:=Br S g) (cs':=(Br S g).set 33 (S0 b (S.ev.length + 1) c)) rfl rfl (by simp[Br]) (GS (by simp[Br])) ?_;exact Ai _ H'
  ·have:=nxt b' c' hc;rw[Zd (by omega),Yz (by omega)];exact this
theorem Fz.flat {R:RM} {v:Value} {w n:Nat} {cells:List Value} (H:Fz R v w n cells):flat v = true:=by
 rcases H with ⟨h1,_,_⟩ | ⟨b,o,cap,t,cs,h1,_⟩<;>subst h1<;>rfl
theorem Aw {a b c:Int} (h:Ch a b = some c):c = a + b∧inR (a + b):=by
 unfold Ch at h;split at h
 ·cases h;exact⟨rfl,by assumption⟩
 ·cases h
theorem Fa {S:Sim} (h:S.sz = true):S.ev.length < 1000000∧S.old.length < 1000000∧S.col.AG.length < 1000000∧S.AO.length < 1000000∧∀t∈S.th,t.AD.length < 1000000:=by
 simp only[Sim.sz,z_b,z_d,ZE] at h;exact⟨h.1.1.1.1,h.1.1.1.2,h.1.1.2,h.1.2,h.2⟩
theorem D0 {p:Nat} {S S' : Sim} {g:Img} {i ans code:Int} {R:RM} (hok:Ok R S g) (hS:S.event i ans code = some S') :
  Fn P JT [Pt p,I i,I ans,I code] R (AY p S g) (Ci p S' λ_=>True):=by
 refine PB λF=>?_
 unfold JR;simp only[Sim.event] at hS;split at hS
 ·cases hS
 rename_i hsz;simp only[Bool.not_eq_true,ZJ] at hsz;have hsz:=Fa hsz;split at hS
 ·rename_i t ht;obtain⟨h0,h1,h2,h3⟩:=Ap ht;split at hS
  ·rename_i n hn;obtain⟨rfl,hin⟩:=Aw hn;cases hS;have hr:=hok.rvl;have h2' : i.toNat < g.rv.length:=by omega
   have hv:=hok.rv i.toNat h2 h2';rw[h3] at hv;obtain⟨xa,cap,hve,-⟩:=Fz.reads (D:=[]) hv;rw[hve] at hv;refine jl rfl ?_;refine jia h0 h1 ?_;refine Vh (p:=p) h2 hr ?_;rw[h3,hve];refine ja λb=>?_
   refine js (cs':=Ad t (.slice xa t.AD.length cap)) rfl rfl (by simp) rfl ?_;refine jl rfl ?_;refine jl rfl ?_;refine jbd (cs:=eEv ⟨i,t.next,ans,code⟩) rfl rfl ?_;refine jbs (cs:=eEv ⟨i,t.next,ans,code⟩) rfl rfl λb1=>?_
   refine Ae (jl rfl jev) ?_;refine WF (p:=p) (e:=⟨i,t.next,ans,code⟩) rfl hok hsz.1 (BQ.held (t:=Dl) (cs:=eEv ⟨i,t.next,ans,code⟩) (o:=0) (n:=1 * 4) (z_n 4)) λg' hok'=>?_
   have hr':=hok'.rvl;refine jl rfl ?_;refine jl rfl ?_;refine jl rfl ?_;refine Cd hin ?_;refine jbd (cs:=Ad (thr0 t.AD (t.next + 1) 0) (.slice xa t.AD.length cap)) rfl rfl ?_;refine jia h0 h1 ?_;refine jst (p:=p) { S with ev:=S.ev ++ [⟨i,t.next,ans,code⟩],th:=AW S.th i (thr0 t.AD (t.next + 1) 0) } { g' with rv:=g'.rv.set i.toNat (.slice xa t.AD.length cap) } (by exact h2) (by exact hr') rfl (by rfl) (by rfl) ?_;exact Ar (RM.le.refl R) trivial rfl (hok'.setT hv)
  ·cases hS
 ·cases hS
theorem Ux {p:Nat} {S S' : Sim} {g:Img} {i:Int} {R:RM} (hok:Ok R S g) (hS:S.back i = some S') :
  Fn P MN [Pt p,I i] R (AY p S g) (Ci p S' λ_=>True):=by
 refine Qs λF=>?_
 unfold LB;simp only[Sim.back] at hS;split at hS
 ·rename_i t ht;obtain⟨h0,h1,h2,h3⟩:=Ap ht;cases hS;have hr:=hok.rvl;have h2' : i.toNat < g.rv.length:=by omega
  have hv:=hok.rv i.toNat h2 h2';rw[h3] at hv;obtain⟨xa,cap,hve,-⟩:=Fz.reads (D:=[]) hv;rw[hve] at hv;refine jl rfl ?_;refine jia h0 h1 ?_;refine Vh (p:=p) h2 hr ?_;rw[h3,hve];refine ja λb=>?_
  refine js (cs':=Ad t (.slice xa t.AD.length cap)) rfl rfl (by simp) rfl ?_;refine jl rfl ?_;refine jl rfl ?_;refine jl rfl ?_;refine jbd (cs:=Ad (thr0 t.AD t.next 1) (.slice xa t.AD.length cap)) rfl rfl ?_;refine jia h0 h1 ?_;refine jst (p:=p) { S with th:=AW S.th i (thr0 t.AD t.next 1) } { g with rv:=g.rv.set i.toNat (.slice xa t.AD.length cap) } (by exact h2) (by exact hr) rfl (by rfl) (by rfl) ?_;refine jss { S with th:=AW S.th i (thr0 t.AD t.next 1),full:=true } { g with rv:=g.rv.set i.toNat (.slice xa t.AD.length cap) } rfl rfl (by decide) (by rfl) (by rfl) ?_;refine jss { S with th:=AW S.th i (thr0 t.AD t.next 1),full:=true,stop:=true } { g with rv:=g.rv.set i.toNat (.slice xa t.AD.length cap) } rfl rfl (by decide) (by rfl) (by rfl) ?_;exact Ar (RM.le.refl R) trivial rfl { hok.setT (i:=i.toNat) (t:=thr0 t.AD t.next 1) hv with }
 ·cases hS
section rows
variable {R:RM} {D G:Chs} {p:Nat} {S:Sim} {g:Img} {m:M} {k:Value→M}
theorem Qm {i:Nat} [w:Fd D p S g G] (hi:i < S.A0.length) (H:J R D (k (.agg (eRg (S.A0[i])).toArray))):J R D (LA 5 (.pointer (some ⟨g.tb,0 + i * 5,none⟩)) k):=by
 intro h hs;rw[Z6];refine jla (R:=R) (D:=AY p S g ++ G) (t:=AI) (cs:=Ab eRg S.A0 ++ g.tsp) (k:=λv h=>k v h) ?_ (DB (f:=eRg) (w:=5) (λ_=>rfl) hi) (λh' hs'=>H h' (hs'.perm w.ex.symm)) h (hs.perm w.ex);rw[Yn,Ds (w:=5) (λ_=>rfl)];omega
theorem Si {i:Nat} {x:Rg} (S' : Sim) [w:Fd D p S g G] (hi:i < S.A0.length) (hS:S' = { S with A0:=S.A0.set i x }) (H:J R (AY p S' g ++ G) m):J R D (ST 5 (.pointer (some ⟨g.tb,0 + i * 5,none⟩)) (.agg (eRg x).toArray) m):=by
 subst hS;intro h hs;rw[Z6];refine js (R:=R) (D:=AY p S g ++ G) (t:=AI) (cs:=Ab eRg S.A0 ++ g.tsp) (cs':=Ab eRg (S.A0.set i x) ++ g.tsp) (D':=AY p { S with A0:=S.A0.set i x } g ++ G) rfl rfl ?_ (NB (f:=eRg) (w:=5) (λ_=>rfl) hi) H h (hs.perm w.ex) (u:=?_)
 ·show i * 5 + 5≤_;rw[Yn,Ds (w:=5) (λ_=>rfl)];omega
 ·have e1:Br { S with A0:=S.A0.set i x } g = Br S g:=by simp[Br,evV]
  unfold AY evD;rw[e1];exact inferInstance
end rows
theorem UK {p:Nat} {S S' : Sim} {g:Img} {a size:Int} {R:RM} (hok:Ok R S g) (hS:S.top a size = some S') :
  Fn P NI [Pt p,I a,I size] R (AY p S g) (Ci p S' λ_=>True):=by
 refine TS λF=>?_
 unfold N2;simp only[Sim.top] at hS;split at hS
 ·rename_i x hx;obtain⟨h0,h1,h2,h3⟩:=Ap hx;have hl:=hok.tl;split at hS
  ·rename_i n hn;obtain⟨rfl,hin⟩:=Aw hn;cases hS;refine jp (CJ a (by omega)) ?_;refine jl rfl ?_;refine jia h0 h1 ?_;refine Qm (p:=p) h2 ?_;rw[h3];refine ja λb=>?_
   refine js (cs':=eRg x) rfl rfl (by simp) rfl ?_;refine Cd hin ?_;refine js (cs':=eRg { x with top:=a + size }) rfl rfl (by simp) rfl ?_;refine jl rfl ?_;refine jla (l:=eRg { x with top:=a + size }) (by simp) rfl ?_;refine jia h0 h1 ?_;refine Si (p:=p) (x:={ x with top:=a + size }) { S with A0:=AW S.A0 (AS a) { x with top:=a + size } } (by exact h2) (by rfl) ?_;exact Ar (RM.le.refl R) trivial rfl { hok with tl:=by simpa [AW] using hok.tl,tk:=by simpa [AW] using hok.tk }
  ·cases hS
 ·cases hS
theorem VR {R:RM} {D E:Chs} {l:List Int} {v:Int} {b c cx:Nat} {sp:List Value} {xa:Option Addr} {k:Value→M} [tk:Tk D b (C Ac (l.map I ++ sp)) E] (hc:l.length≤c) (hsp:sp.length = c - l.length) (hl:l.length < 1000000) (hx:BQ R D xa (1 * 1) [I v])
  (H:∀b' c' sp',l.length + 1≤c'→sp'.length = c' - (l.length + 1)→J R ((b',C Ac ((l ++ [v]).map I ++ sp')) :: E) (k (.slice (some ⟨b',0,none⟩) (l.length + 1) c'))) :
  J R D (AP Ac 1 8 [I 0] (S0 b l.length c) (.slice xa 1 cx) k):=by
 refine Uo (tk:=tk) hx (by simp;omega) hc rfl rfl (by decide) (by omega) (λh=>?_) (λb' c' h=>?_)
 ·have el:lay (l.map I ++ sp) (l.length * 1) [I v] = (l ++ [v]).map I ++ sp.drop 1:=by
   rw[GP (by simp)];simp[lay]
  rw[el];exact H b c _ h (by simp;omega)
 ·refine BH (tk.p.cons _) (BH (aC _ _ _) (C4 ?_));have:=H b' c' (List.replicate (c' - (l.length + 1)) [I 0]).flatten h (by rw[CE (w:=1) (by intro x hx;rw[(Za.1 hx).2];rfl)];simp);rw[Zd (by simp),Yz (by simp)];simpa using this
theorem C7 {R:RM} {b c:Nat} {l:List Int} {sp:List Value} (h:R b = some (C Ac (l.map I ++ sp))) (hc:l.length≤c):BC R (S0 b l.length c) l:=
 .inr ⟨b,0,c,_,_,rfl,h,by simp,by simp,hc⟩
theorem WO {p:Nat} {S S' : Sim} {g:Img} {v:Int} {R:RM} (hok:Ok R S g) (hS:S.oldV v = some S') :
  Fn P NN [Pt p,I v] R (AY p S g) (Ci p S' λ_=>True):=by
 refine Sl λF=>?_
 unfold NU;simp only[Sim.oldV] at hS;split at hS
 ·cases hS
 rename_i hsz;simp only[Bool.not_eq_true,ZJ] at hsz;have hsz:=Fa hsz;refine Ct (jl rfl (jeq (Bm (λh=>?_) (λh=>?_))))
 ·have hph:S.Aa = 1:=by simpa using h
  refine jne (CH λe he=>?_);simp only[List.map,zj,z_t,h] at he;simp only[he];refine ED (jif (λh2=>?_) (λh2=>?_))
  ·have hv0:v≠0:=by simpa using h2
   rw[if_pos ⟨hph,hv0⟩] at hS;cases hS;refine jl rfl ?_;refine jc (A:=[]) (C9 hok.old hsz.2.1) ?_;rintro _ R' _ hR ⟨b,c,sp,hc,hsp,rfl,rfl⟩;have hok':=hok.le hR;refine jbs (cs:=[I v]) rfl rfl λb1=>?_
   refine VR (v:=v) hc hsp hsz.2.1 (BQ.held (t:=Ac) (cs:=[I v]) (o:=0) (n:=1 * 1) (z_n 1)) λb' c' sp' hc' hsp'=>?_
   refine Bh (b:=b') λR2 hR2 hb'=>?_
   refine jss { S with old:=S.old ++ [v] } { g with old:=.slice (some ⟨b',0,none⟩) (S.old.length + 1) c' } rfl rfl (by decide) (by rfl) (by rfl) ?_;have hi:=C7 (c:=c') hb' (by simpa using hc');rw[Yn,Z4] at hi;exact Ar (hR.trans hR2) trivial rfl (by exact { hok'.le hR2 with old:=hi })
  ·have hv0:¬ v≠0:=by simpa using h2
   rw[if_neg (λhh=>hv0 hh.2)] at hS;cases hS;exact Ar (RM.le.refl R) trivial rfl hok
 ·have hph:S.Aa≠1:=by simpa using h
  rw[if_neg (λhh=>hph hh.1)] at hS;cases hS;refine CH λe he=>?_
  simp only[List.map,zj,z_t,h] at he;simp only[he];refine EC (Cn ?_);exact Ar (RM.le.refl R) trivial rfl hok
theorem jcS {R:RM} {D G:Chs} {p f:Nat} {S S' : Sim} {g:Img} {args:List Value} {r:Value→Prop} {k:Value→M} [w:Fd D p S g G] (hF:Fn P f args R (AY p S g) (Ci p S' r))
  (H:∀v R' g',R.le R'→r v→Ok R' S' g'→J R' (AY p S' g' ++ G) (k v)):J R D (CA P f args k):=by
 refine BH w.ex (jc hF ?_);rintro v R' _ hR ⟨hr,g',rfl,ho⟩;exact H v R' g' hR hr ho
theorem OC {p:Nat} {S S' : Sim} {g:Img} {i a:Int} {R:RM} (hok:Ok R S g) (hS:S.push i a = some S') :
  Fn P LW [Pt p,I i,I a] R (AY p S g) (Ci p S' λ_=>True):=by
 refine QO λF=>?_
 unfold LG;simp only[Sim.push] at hS;split at hS
 ·cases hS
 rename_i hsz;simp only[Bool.not_eq_true,ZJ] at hsz;have hsz:=Fa hsz;split at hS
 ·rename_i t ht;obtain⟨h0,h1,h2,h3⟩:=Ap ht;have hr:=hok.rvl;have h2' : i.toNat < g.rv.length:=by omega
  have hv:=hok.rv i.toNat h2 h2';rw[h3] at hv;have hl:t.AD.length < 1000000:=hsz.2.2.2.2 t (by rw[← h3];exact Yv h2);obtain⟨xa,cap,hve,-⟩:=Fz.reads (D:=[]) hv;rw[hve] at hv;refine jl rfl ?_;refine jia h0 h1 ?_;refine Vh (p:=p) h2 hr ?_;rw[h3,hve];refine ja λb=>?_
  refine js (cs':=Ad t (.slice xa t.AD.length cap)) rfl rfl (by simp) rfl ?_;refine jl rfl ?_;refine jc (A:=[]) (C9 hv hl) ?_;rintro _ R' _ hR ⟨b2,c,sp,hc,hsp,rfl,rfl⟩;have hok':=hok.le hR;refine jbs (cs:=[I a]) rfl rfl λb1=>?_
  refine VR (v:=a) hc hsp hl (BQ.held (t:=Ac) (cs:=[I a]) (o:=0) (n:=1 * 1) (z_n 1)) λb' c' sp' hc' hsp'=>?_
  refine Bh (b:=b') λR2 hR2 hb'=>?_
  have hi:=C7 (c:=c') hb' (by simpa using hc');rw[Yn,Z4] at hi;refine js (cs':=Ad { t with AD:=t.AD ++ [a] } (.slice (some ⟨b',0,none⟩) (t.AD.length + 1) c')) rfl rfl (by simp[Ad]) rfl ?_;refine jl rfl ?_;refine jla (l:=Ad { t with AD:=t.AD ++ [a] } (.slice (some ⟨b',0,none⟩) (t.AD.length + 1) c')) (by simp[Ad]) rfl ?_;refine jia h0 h1 ?_;refine jst (p:=p) { S with th:=AW S.th i { t with AD:=t.AD ++ [a] } } { g with rv:=g.rv.set i.toNat (.slice (some ⟨b',0,none⟩) (t.AD.length + 1) c') } (by exact h2) (by exact hr) rfl (by rfl) (by rfl) ?_;refine jcS (p:=p) (by exact D0 ((hok'.le hR2).setT (i:=i.toNat) (t:={ t with AD:=t.AD ++ [a] }) hi) hS) λ_ R3 g3 hR3 _ hok3=>?_
  exact Ar ((hR.trans hR2).trans hR3) trivial rfl hok3
 ·cases hS
theorem GC {R:RM} {D G:Chs} {p:Nat} {S:Sim} {g:Img} {i:Int} {t:Thr} {z:Value} {k:Value→M} [w:Fd D p S g G] (hok:Ok R S g) (ht:idx S.th i = some t) (hz:(cl z).length = 17)
  (H:∀b a cap,BC R (.slice a t.AD.length cap) t.AD→J R ((b,C AV (Ad t (.slice a t.AD.length cap))) :: D) (k (Pt b))) :
  J R D (L1 (.pointer (some ⟨p,17,none⟩)) λx3=>IA 17 x3 (I i) λx4=>LA 17 x4 λx5=>AL AV z λx6=>ST 17 x6 x5 (k x6)):=by
 obtain⟨h0,h1,h2,h3⟩:=Ap ht;have hr:=hok.rvl;have h2' : i.toNat < g.rv.length:=by omega
 have hv:=hok.rv i.toNat h2 h2';rw[h3] at hv;obtain⟨xa,cap,hve,-⟩:=Fz.reads (D:=[]) hv;rw[hve] at hv;refine BH w.ex ?_;refine jl rfl ?_;refine jia h0 h1 ?_;refine Vh (p:=p) h2 hr ?_;rw[h3,hve];refine ja λb=>?_
 refine js (cs':=Ad t (.slice xa t.AD.length cap)) rfl rfl (by rw[hz];exact z_n 17) ?_ ?_
 ·show lay (cl z) 0 (Ad t _) = _;have:=Rh (a:=cl z) (b:=[]) (l:=Ad t (.slice xa t.AD.length cap)) (by rw[hz];rfl);simpa using this
 ·exact BH (w.ex.symm.cons _) (H b xa cap hv)
theorem GB {R:RM} {D G:Chs} {p b:Nat} {S:Sim} {g:Img} {i:Int} {t:Thr} {v:Value} {m:M} (S' : Sim) [w:Fd D p S g G] [at_:At D b (C AV (Ad t v))] (hok:Ok R S g) (h0:0≤i) (h1:i < S.th.length) (hv:BC R v t.AD) (hS:S' = { S with th:=AW S.th i t })
  (H:∀g',Ok R S' g'→J R (AY p S' g' ++ G) m) :
  J R D (L1 (.pointer (some ⟨p,17,none⟩)) λx24=>LA 17 (Pt b) λx25=>IA 17 x24 (I i) λx26=>ST 17 x26 x25 m):=by
 subst hS;obtain⟨xa,cap,hve,-⟩:=Fz.reads (D:=[]) hv;subst hve;have hr:=hok.rvl;have h2:i.toNat < S.th.length:=by omega
 intro h hs;have hst:=hs.perm w.ex;have hl:J R D (LA 17 (Pt b) λx25=>IA 17 (.slice (some ⟨g.hb,0,none⟩) S.th.length g.hc) (I i) λx26=>ST 17 x26 x25 m):=by
  refine jla (cs:=Ad t (.slice xa t.AD.length cap)) (t:=AV) (l:=Ad t (.slice xa t.AD.length cap)) (z_n 17) rfl ?_;refine jia h0 h1 ?_;refine jst (p:=p) { S with th:=AW S.th i t } { g with rv:=g.rv.set i.toNat (.slice xa t.AD.length cap) } (by exact h2) (by exact hr) rfl (by rfl) (by rfl) ?_;exact H _ (hok.setT hv)
 have:J R (AY p S g ++ G) (L1 (.pointer (some ⟨p,17,none⟩)) λx24=>LA 17 (Pt b) λx25=>IA 17 x24 (I i) λx26=>ST 17 x26 x25 m):=jl rfl (BH w.ex.symm hl);exact this h hst
theorem PN (pc:Int) (h:inR (pc + 1)):Pu Kv [I pc] (I (Di pc)):=by
 intro R;refine Q6 λF=>?_
 unfold KW;refine jeq (jif (λh1=>?_) (λh1=>?_))
 ·refine BA (A:=[]) (RM.le.refl R) ?_;rw[Di,if_pos (by simpa using h1)]
 ·refine jeq (jif (λh2=>?_) (λh2=>Cd h ?_))
  ·refine BA (A:=[]) (RM.le.refl R) ?_;rw[Di,if_neg (by simpa using h1),if_pos (by simpa using h2)]
  ·refine BA (A:=[]) (RM.le.refl R) ?_;rw[Di,if_neg (by simpa using h1),if_neg (by simpa using h2)]
theorem U2 (t:Thr) (a:Option Addr) (n c:Nat) (pc:Int):Pu Ls [.agg (Ad t (.slice a n c)).toArray,I pc] (I (Bl t pc)):=by
 intro R;refine Qp λF=>?_
 unfold M3;refine ja λb=>?_
 have e:cl (.agg (Ad t (.slice a n c)).toArray) = Ad t (.slice a n c):=rfl;rw[e];refine jeq (jif (λh1=>?_) (λh1=>?_))
 ·refine jl rfl (BA (A:=[]) (RM.le.refl R) ?_);rw[Bl,if_pos (by simpa using h1)]
 ·refine jeq (jif (λh2=>?_) (λh2=>?_))
  ·refine jl rfl (BA (A:=[]) (RM.le.refl R) ?_);rw[Bl,if_neg (by simpa using h1),if_pos (by simpa using h2)]
  ·refine jeq (jif (λh3=>?_) (λh3=>?_))
   ·refine jl rfl (BA (A:=[]) (RM.le.refl R) ?_);rw[Bl,if_neg (by simpa using h1),if_neg (by simpa using h2),if_pos (by simpa using h3)]
   ·refine jl rfl (BA (A:=[]) (RM.le.refl R) ?_);rw[Bl,if_neg (by simpa using h1),if_neg (by simpa using h2),if_neg (by simpa using h3)]
end Go.Lf
end
section
namespace Go.Lf
open Go Sm
theorem AE {α β:Type} {x:Option α} {f:α→Option β} {b:β} (h:(x >>= f) = some b):∃a,x = some a∧f a = some b:=by
 cases x with
 | none=>cases h
 | some a=>exact⟨a,rfl,h⟩
theorem XI {p:Nat} {S S' : Sim} {g:Img} {i v:Int} {R:RM} (hok:Ok R S g) (hS:S.load i v = some S') :
  Fn P Km [Pt p,I i,I v] R (AY p S g) (Ci p S' λ_=>True):=by
 refine RD λF=>?_
 unfold Lx;obtain⟨t,ht,hS⟩:=AE hS;obtain⟨h0,h1,h2,h3⟩:=Ap ht;refine GC (p:=p) hok ht rfl λb a cap hv=>?_
 have rest:∀e:Env,e 0 = Pt p→e 1 = I i→e 2 = I v→e 6 = Pt b→¬ (t.pc = 12∧v = t.u)→J R ((b,C AV (Ad t (.slice a t.AD.length cap))) :: (AY p S g ++ F)) (CA P HC [(e 0),(e 2)] λx18=>NT x18 λx19=>IF x19 (CA P 236 [(e 0),(e 1),(e 2)] λx20=>Er R F (Ci p S' λ_=>True) (.tuple #[])) (FO 7 (e 6) λx21=>ST 1 x21 (e 2)<|FO 8 (e 6) λx22=>ST 1 x22 (e 2)<|FO 3 (e 6) λx23=>ST 1 x23 (I 11)<|NC (e 0) λx24=>FO 17 x24 λx25=>L1 x25 λx26=>LA 17 (e 6) λx27=>IA 17 x26 (e 1) λx28=>ST 17 x28 x27<|Er R F (Ci p S' λ_=>True) (.tuple #[]))):=by
  intro e e0 e1 e2 e6 hc;simp only[e0,e1,e2,e6];rw[if_neg hc] at hS;obtain⟨c,hf,hS⟩:=AE hS;refine jcS (p:=p) (by exact Kb hok hf) λ_ R1 g1 hR1 hr ok1=>?_
  subst hr;cases c with
  | false=>
   refine DO ?_;refine jcS (p:=p) (by exact OC ok1 hS) λ_ R2 g2 hR2 hr ok2=>?_
   exact Ar (hR1.trans hR2) trivial rfl ok2
  | true=>
   refine Cn ?_;cases hS;refine js (cs':=Ad { t with u:=v } (.slice a t.AD.length cap)) rfl rfl (by simp[Ad]) rfl ?_;refine js (cs':=Ad { t with u:=v,v:=v } (.slice a t.AD.length cap)) rfl rfl (by simp[Ad]) rfl ?_;refine js (cs':=Ad { t with u:=v,v:=v,pc:=11 } (.slice a t.AD.length cap)) rfl rfl (by simp[Ad]) rfl ?_;refine GB (p:=p) (S.setT i { t with u:=v,v:=v,pc:=11 }) (by exact ok1) h0 (by exact h1) (by exact hv.le hR1) (by rfl) λg2 ok2=>?_
   exact Ar hR1 trivial rfl ok2
 refine Ct (jl rfl (jeq (Bm (λhp=>jl rfl (jeq (CH λe he=>?_))) (λhp=>CH λe he=>?_))))
 ·simp only[List.map,zj,z_t,hp] at he;obtain⟨e0,e1,e2,e6,e17,e21⟩:=he;simp only[e17,e21];refine ED (jif (λhq=>?_) (λhq=>rest e e0 e1 e2 e6 λhh=>?_))
  ·have hc:t.pc = 12∧v = t.u:=⟨by simpa using hp,by simpa using hq⟩;rw[if_pos hc] at hS;simp only[e0,e1,e6];refine jl rfl ?_;refine jcS (p:=p) (by exact OC hok hS) λ_ R2 g2 hR2 hr ok2=>?_
   exact Ar hR2 trivial rfl ok2
  ·simp[hh.2] at hq
 ·simp only[List.map,zj,z_t,hp] at he;obtain⟨e0,e1,e2,e6,e17,e21⟩:=he;simp only[e17,e21];refine EC (Cn (rest e e0 e1 e2 e6 λhh=>?_));simp[hh.1] at hp
theorem UC {p:Nat} {S S' : Sim} {g:Img} {i v:Int} {R:RM} (hok:Ok R S g) (hS:S.swap i v = some S') :
  Fn P Lr [Pt p,I i,I v] R (AY p S g) (Ci p S' λ_=>True):=by
 refine RY λF=>?_
 unfold MH;obtain⟨t,ht,hS⟩:=AE hS;obtain⟨h0,h1,h2,h3⟩:=Ap ht;refine GC (p:=p) hok ht rfl λb a cap hv=>?_
 refine AJ (λvs R' D'=>R' = R∧D' = (b,C AV (Ad t (.slice a t.AD.length cap))) :: (AY p S g ++ F)∧∃c u,vs = [Pt p,I i,I v,Pt b,c,u]∧∀k,zA c u k = k (.bool (t.pc == 16 && v == t.u))) (λK hK=>?_) ?_
 ·refine jl rfl (jeq (Bm (λhp=>jl rfl (jeq (hK _ _ _ ⟨rfl,rfl,_,_,rfl,λk=>?_⟩))) (λhp=>hK _ _ _ ⟨rfl,rfl,_,_,rfl,λk=>?_⟩)))
  ·simp only[hp,zA,zP,PK,cond_true,Yx]
  ·simp only[hp,zA,zP,PK,cond_false,Yy]
 ·rintro e _ _ ⟨rfl,rfl,c,u,he,hpk⟩;simp only[List.map,zj,z_t] at he;obtain⟨e0,e1,e2,e6,e17,e21⟩:=he;simp only[e0,e1,e2,e6,e17,e21];rw[hpk];refine jif (λhq=>?_) (λhc=>?_)
  ·simp only[z_b,beq_iff_eq] at hq;rw[if_pos hq] at hS;refine jcS (p:=p) (by exact D0 hok hS) λ_ R2 g2 hR2 hr ok2=>?_
   exact Ar hR2 trivial rfl ok2
  have hc:¬ (t.pc = 16∧v = t.u):=by simpa using hc
  rw[if_neg hc] at hS;obtain⟨d,hf,hS⟩:=AE hS;refine js (cs':=Ad { t with u:=v } (.slice a t.AD.length cap)) rfl rfl (by simp[Ad]) rfl ?_;refine jcS (p:=p) (by exact Kb hok hf) λ_ R1 g1 hR1 hr ok1=>?_
  subst hr;refine jif (λhd=>?_) (λhd=>?_)
  ·subst hd;cases hS;refine js (cs':=Ad { t with u:=v,v:=v } (.slice a t.AD.length cap)) rfl rfl (by simp[Ad]) rfl ?_;refine js (cs':=Ad { t with u:=v,v:=v,pc:=15 } (.slice a t.AD.length cap)) rfl rfl (by simp[Ad]) rfl ?_;refine GB (p:=p) (S.setT i { t with u:=v,v:=v,pc:=15 }) (by exact ok1) h0 (by exact h1) (by exact hv.le hR1) (by rfl) λg2 ok2=>?_
   exact Ar hR1 trivial rfl ok2
  ·subst hd;refine jl rfl (jne (jif (λhg=>?_) (λhg=>?_)))
   ·have hg:v≠t.g:=by simpa using hg
    rw[if_neg (by decide),if_pos hg] at hS;refine jcS (p:=p) (by exact D0 ok1 hS) λ_ R2 g2 hR2 hr ok2=>?_
    exact Ar (hR1.trans hR2) trivial rfl ok2
   ·have hg:¬ v≠t.g:=by simpa using hg
    rw[if_neg (by decide),if_neg hg] at hS;obtain⟨S2,ho,hS⟩:=AE hS;cases hS;refine jcS (p:=p) (by exact WO ok1 ho) λ_ R2 g2 hR2 hr ok2=>?_
    refine js (cs':=Ad { t with u:=v,pc:=14 } (.slice a t.AD.length cap)) rfl rfl (by simp[Ad]) rfl ?_;have hth:S2.th = S.th:=by
     simp only[Sim.oldV] at ho;split at ho
     ·cases ho
     ·cases ho;split<;>rfl
    refine GB (p:=p) (S2.setT i { t with u:=v,pc:=14 }) (by exact ok2) h0 (by rw[hth];exact h1) (by exact hv.le (hR1.trans hR2)) (by rfl) λg3 ok3=>?_
    exact Ar (hR1.trans hR2) trivial rfl ok3
theorem Pc (t:Thr) (xa:Option Addr) (n c:Nat) (pc a:Int) (h:inR (pc + 1)):Pu Kj [.agg (Ad t (.slice xa n c)).toArray,I pc,I a] (.agg (Ad (Be t pc a) (.slice xa n c)).toArray):=by
 intro R;refine Qb λF=>?_
 unfold Lz;refine ja λb=>ja λb2=>?_
 have e:cl (.agg (Ad t (.slice xa n c)).toArray) = Ad t (.slice xa n c):=rfl;rw[e];refine AJ (λvs R' D'=>R' = R∧D' = (b2,C AV (cl ET)) :: (b,C AV (Ad { Be t pc a with pc:=t.pc } (.slice xa n c))) :: ([] ++ F)∧vs = [I pc,Pt b,Pt b2]) (λK hK=>?_) ?_
 ·refine Ct ?_;have fin:∀t1,t1 = { Be t pc a with pc:=t.pc }→J R ((b2,C AV (cl ET)) :: (b,C AV (Ad t1 (.slice xa n c))) :: ([] ++ F)) (λh=>∀e:Env,List.map e [1,3,6] = [I pc,Pt b,Pt b2]→K [(e 1),(e 3),(e 6)] h):=by
   rintro t1 rfl;refine CH λe he=>?_
   simp only[List.map,zj,z_t] at he;simp only[he];exact hK _ _ _ ⟨rfl,rfl,rfl⟩
  refine jeq (jif (λh1=>?_) (λh1=>?_))
  ·refine js (cs':=Ad { t with h:=a } (.slice xa n c)) rfl rfl (by simp[Ad]) rfl (fin _ ?_);rw[Be,if_pos (by simpa using h1)]
  ·refine jeq (jif (λh2=>?_) (λh2=>?_))
   ·refine js (cs':=Ad { t with g:=a } (.slice xa n c)) rfl rfl (by simp[Ad]) rfl (fin _ ?_);rw[Be,if_neg (by simpa using h1),if_pos (by simpa using h2)]
   ·refine jeq (jif (λh3=>?_) (λh3=>?_))
    ·refine js (cs':=Ad { t with k:=a } (.slice xa n c)) rfl rfl (by simp[Ad]) rfl (fin _ ?_);rw[Be,if_neg (by simpa using h1),if_neg (by simpa using h2),if_pos (by simpa using h3)]
    ·refine js (cs':=Ad { t with v:=a } (.slice xa n c)) rfl rfl (by simp[Ad]) rfl (fin _ ?_);rw[Be,if_neg (by simpa using h1),if_neg (by simpa using h2),if_neg (by simpa using h3)]
 ·rintro e _ _ ⟨rfl,rfl,he⟩;simp only[List.map,zj,z_t] at he;simp only[he];refine jp (PN pc h) ?_;have hp:(Be t pc a).pc = Di pc:=rfl;refine js (cs':=Ad (Be t pc a) (.slice xa n c)) rfl rfl (by simp[Ad]) rfl ?_;refine jla (cs:=Ad (Be t pc a) (.slice xa n c)) (t:=AV) (l:=Ad (Be t pc a) (.slice xa n c)) (z_n 17) rfl ?_;refine js (cs':=Ad (Be t pc a) (.slice xa n c)) rfl rfl (by exact z_n 17) rfl ?_;refine jla (cs:=Ad (Be t pc a) (.slice xa n c)) (t:=AV) (l:=Ad (Be t pc a) (.slice xa n c)) (z_n 17) rfl ?_;exact BA (A:=[]) (RM.le.refl _) rfl
theorem SV {p:Nat} {S S' : Sim} {g:Img} {i:Int} {R:RM} (hok:Ok R S g) (hS:S.resolve i = some S') :
  Fn P Gd [Pt p,I i] R (AY p S g) (Ci p S' λ_=>True):=by
 refine Md λF=>?_
 unfold HB;obtain⟨t,ht,hS⟩:=AE hS;obtain⟨h0,h1,h2,h3⟩:=Ap ht;split at hS
 ·cases hS
 rename_i hpc;have hpc:0≤t.pc∧t.pc≤100:=Classical.not_not.1 hpc;have hin:inR (t.pc + 1):=⟨by omega,by omega⟩;obtain⟨c,hf,hS⟩:=AE hS;refine GC (p:=p) hok ht rfl λb a cap hv=>?_
 refine jl rfl ?_;refine jla (cs:=Ad t (.slice a t.AD.length cap)) (t:=AV) (l:=Ad t (.slice a t.AD.length cap)) (z_n 17) rfl ?_;refine jp (U2 t a t.AD.length cap t.pc) ?_;refine jcS (p:=p) (by exact Kb hok hf) λ_ R1 g1 hR1 hr ok1=>?_
 subst hr;refine jif (λhc=>?_) (λhc=>?_)
 ·have hc:c = false:=by simpa using hc
  subst hc;cases hS;refine jp (PN t.pc hin) ?_;refine js (cs':=Ad { t with pc:=Di t.pc } (.slice a t.AD.length cap)) rfl rfl (by simp[Ad]) rfl ?_;refine GB (p:=p) (S.setT i { t with pc:=Di t.pc }) (by exact ok1) h0 (by exact h1) (by exact hv.le hR1) (by rfl) λg2 ok2=>?_
  exact Ar hR1 trivial rfl ok2
 ·have hc:c = true:=by simpa using hc
  subst hc;obtain⟨⟨f,S1⟩,hrd,hS⟩:=AE hS;dsimp only at hS;have hS1:S1.th = S.th∧S1.Aa = S.Aa:=by
   simp only[Sim.read] at hrd;split at hrd
   ·cases hrd;exact⟨rfl,rfl⟩
   ·cases hrd
  refine jcS (p:=p) (by exact Cm ok1 hrd) λ_ R2 g2 hR2 hr ok2=>?_
  subst hr;refine AJ (λvs R' D'=>R' = R2∧∃t',t'.AD = t.AD∧S' = S1.setT i t'∧D' = AY p S1 g2 ++ (b,C AV (Ad t' (.slice a t.AD.length cap))) :: F∧vs = [Pt p,I i,Pt b]) (λK hK=>?_) ?_
  ·refine AJ (λvs R' D'=>R' = R2∧D' = AY p S1 g2 ++ (b,C AV (Ad t (.slice a t.AD.length cap))) :: F∧∃c u,vs = [Pt p,I i,Pt b,I t.pc,I (Bl t t.pc),I f,c,u]∧∀k,zA c u k = k (.bool (f == Bl t t.pc && S.Aa == 2))) (λK2 hK2=>?_) ?_
   ·refine jeq (Bm (λhp=>jl rfl (jeq (hK2 _ _ _ ⟨rfl,rfl,_,_,rfl,λk=>?_⟩))) (λhp=>hK2 _ _ _ ⟨rfl,rfl,_,_,rfl,λk=>?_⟩))
    ·simp only[hp,zA,zP,PK,cond_true,Yx,hS1.2]
    ·simp only[hp,zA,zP,PK,cond_false,Yy]
   ·rintro e _ _ ⟨rfl,rfl,c,u,he,hpk⟩;simp only[List.map,zj,z_t] at he;obtain⟨e0,e1,e4,e5,e6,e7,e40,e46⟩:=he;simp only[e0,e1,e4,e5,e6,e7,e40,e46];rw[hpk];refine jif (λhq=>?_) (λhq=>?_)
    ·simp only[z_b,beq_iff_eq] at hq;rw[if_pos ⟨hq.1,by rw[hS1.2];exact hq.2⟩] at hS;cases hS;refine js (cs':=Ad { t with src:=Bl t t.pc } (.slice a t.AD.length cap)) rfl rfl (by simp[Ad]) rfl ?_;refine js (cs':=Ad { t with src:=Bl t t.pc,ret:=t.pc } (.slice a t.AD.length cap)) rfl rfl (by simp[Ad]) rfl ?_;refine js (cs':=Ad { t with src:=Bl t t.pc,ret:=t.pc,pc:=20 } (.slice a t.AD.length cap)) rfl rfl (by simp[Ad]) rfl ?_;exact hK _ _ _ ⟨rfl,{ t with src:=Bl t t.pc,ret:=t.pc,pc:=20 },rfl,rfl,rfl,rfl⟩
    ·have hq:¬ (f = Bl t t.pc∧S1.Aa = 2):=by rw[hS1.2];simpa using hq
     rw[if_neg hq] at hS;cases hS;refine jla (cs:=Ad t (.slice a t.AD.length cap)) (t:=AV) (l:=Ad t (.slice a t.AD.length cap)) (z_n 17) rfl ?_;refine jp (Pc t a t.AD.length cap t.pc f hin) ?_;refine js (cs':=Ad (Be t t.pc f) (.slice a t.AD.length cap)) rfl rfl (by exact z_n 17) rfl ?_;refine hK _ _ _ ⟨rfl,Be t t.pc f,?_,rfl,rfl,rfl⟩;simp only[Be];split<;>(try split)<;>(try split)<;>rfl
  ·rintro e _ _ ⟨rfl,t',hr,rfl,rfl,he⟩;simp only[List.map,zj,z_t] at he;simp only[he];have hv' : BC _ _ _:=hv.le (hR1.trans hR2);refine GB (p:=p) (S1.setT i t') (by exact ok2) h0 (by rw[hS1.1];exact h1) (by rw[hr];exact hv') (by rfl) λg3 ok3=>?_
   exact Ar (hR1.trans hR2) trivial rfl ok3
theorem QW (a b:Bool) (x y:Operand) (w:World):(do eqGuard .neq 4 x y (.bool a) (.bool b);binOp .neq 4 (.bool a) (.bool b):Sem Value).run P w = .ok (.bool (a != b)) w:=by
 cases a<;>cases b<;>kernel_rfl
theorem jxb {a b:Bool} {x y:Operand} {R:RM} {D:Chs} {k:Value→M} (H:J R D (k (.bool (a != b)))):J R D (X P (do eqGuard .neq BK x y (.bool a) (.bool b);binOp .neq BK (.bool a) (.bool b)) k):=by
 intro h hs w hw;have:=QW a b x y w;rw[this];subst hw;exact⟨BF.refl _,H _ hs⟩
theorem Wr:(P.fieldsOf AI).toList.map (λf=>(f.name != "_",f.type,f.offset)) = [(true,Ac,0),(true,Ac,1),(true,Ac,2),(true,Ac,3),(true,Ac,4)]:=by kernel_rfl
theorem UO (f:Nat) (o:Nat) (xs:List Value) (v:Value) (w:World) (h:xs[o]? = some v):(part Ac xs.toArray o).run P w = .ok v w:=
 run_part_plain w (by kernel_rfl) (by simpa using h)
theorem Q2 (d:Nat) (w:World) (xs ys:List Value):∀(fs:List Field) (os:List Nat) (ps bs:List Int),fs.map (λf=>(f.name != "_",f.type,f.offset)) = os.map (λo=>(true,Ac,o))→os.map (xs[·]?) = ps.map (λa=>some (I a))→os.map (ys[·]?) = bs.map (λb=>some (I b))→
  (Op.eqFields (d + 1) xs.toArray ys.toArray fs).run P w = .ok (ps == bs) w:=by
 intro fs;induction fs with
 | nil=>intro os ps bs h1 h2 h3;cases os<;>simp at h1;cases ps<;>simp at h2;cases bs<;>simp at h3;simp[Op.eqFields]
 | cons f fs ih=>
  intro os ps bs h1 h2 h3;cases os with
  | nil=>simp at h1
  | cons o os=>
   cases ps with
   | nil=>simp at h2
   | cons a ps=>
    cases bs with
    | nil=>simp at h3
    | cons b bs=>
     simp only[Zn,zj,Prod.mk.injEq] at h1 h2 h3;obtain⟨⟨n1,n2,n3⟩,h1⟩:=h1;have n1' : f.name≠ "_":=by simpa using n1
     simp only[Op.eqFields,if_pos n1',ZB];rw[n2,n3,UO 0 o xs (I a) w h2.1];simp only[Yt];rw[UO 0 o ys (I b) w h3.1];simp only[Yt];rw[run_equalIn_int w d Ac .i64 .i64 a b (by kernel_rfl)];simp only[Yt];cases hb:(a == b)
     ·simp[hb]
     ·simp[hb,ih os ps bs h1 h2.2 h3.2]
theorem Xb {a b:Rg} {x y:Operand} {R:RM} {D:Chs} {k:Value→M} (H:J R D (k (.bool (!(a == b))))):J R D (X P (do eqGuard .neq AI x y (.agg (eRg a).toArray) (.agg (eRg b).toArray);binOp .neq AI (.agg (eRg a).toArray) (.agg (eRg b).toArray)) k):=by
 intro h hs w hw;have hfs:=Wr;rw[ZB,run_eqGuard_agg _ _ _ _ _ _ _ (by kernel_rfl)];simp only[Yt];rw[run_neq_struct,run_equalIn_struct w 9999 AI _ _ (by kernel_rfl) (by kernel_rfl)];rw[Q2 9998 w (eRg a) (eRg b) _ [0,1,2,3,4] [a.kind,a.AT,a.top,a.Az,a.AQ] [b.kind,b.AT,b.top,b.Az,b.AQ] hfs rfl rfl];simp only[Yt];have:([a.kind,a.AT,a.top,a.Az,a.AQ] == [b.kind,b.AT,b.top,b.Az,b.AQ]) = (a == b):=by
  rw[ZT];obtain⟨a1,a2,a3,a4,a5⟩:=a;obtain⟨b1,b2,b3,b4,b5⟩:=b;simp
 rw[this];subst hw;exact⟨BF.refl _,H _ hs⟩
end Go.Lf
end
section
namespace Sm
def gv {α:Type} (d:α) (l:List α) (a:Int):α:=l.getD a.toNat d
theorem RE {α:Type} {d:α} {l:List α} {a x:Int} {v:α} (h0:0≤a) (h1:a < l.length) (hx:0≤x):gv d (AW l a v) x = if x = a then v else gv d l x:=by
 unfold gv AW;rw[Z5,Z5,List.getElem?_set];by_cases h:x = a
 ·subst h;rw[if_pos rfl,if_pos rfl,if_pos (by omega)];rfl
 ·rw[if_neg (by omega),if_neg h]
theorem Nz {α:Type} {d:α} {l:List α} {a:Int} (h0:0≤a) (h1:a < l.length):idx l a = some (gv d l a):=by
 unfold idx gv;rw[if_pos h0,Z5,Yl (by omega)];rfl
theorem Is {α:Type} {l:List α} {a:Int} {v:α} (d:α) (h:idx l a = some v):0≤a∧a < l.length∧gv d l a = v:=by
 unfold idx at h;split at h
 ·obtain⟨hi,he⟩:=ZI.1 h;refine⟨‹_›,by omega,?_⟩;unfold gv;rw[Z5,h];rfl
 ·cases h
theorem FH {α:Type} {d:α} {l:List α} {k:Nat} (h:k < l.length):gv d l (k:Int) = l[k]:=by
 unfold gv;rw[Yj,Z5,Yl h];rfl
theorem Wb {α:Type} {d:α} {l:List α} {a:Int} (h0:0≤a) (h:l.length≤a):gv d l a = d:=by
 unfold gv;rw[Z5,ZW (by omega)];rfl
@[simp] theorem Cq {α:Type} {l:List α} {a:Int} {v:α}:(AW l a v).length = l.length:=by simp[AW]
@[reducible] def wv (l:List Int) (a:Int):Int:=gv 0 l a
@[reducible] def mv (l:List Bool) (a:Int):Bool:=gv false l a
@[reducible] def rv (t:List Rg) (r:Int):Rg:=gv DY t r
theorem UN {l:List Int} {a:Int} (h0:0≤a) (h1:a < l.length):idx l a = some (wv l a):=Nz h0 h1
theorem QG {l:List Bool} {a:Int} (h0:0≤a) (h1:a < l.length):idx l a = some (mv l a):=Nz h0 h1
theorem Cj {l:List Rg} {a:Int} (h0:0≤a) (h1:a < l.length):idx l a = some (rv l a):=Nz h0 h1
theorem DK {l:List Int} {a x v:Int} (h0:0≤a) (h1:a < l.length) (hx:0≤x):wv (AW l a v) x = if x = a then v else wv l x:=RE h0 h1 hx
theorem QU {l:List Bool} {a x:Int} {v:Bool} (h0:0≤a) (h1:a < l.length) (hx:0≤x):mv (AW l a v) x = if x = a then v else mv l x:=RE h0 h1 hx
theorem DS {l:List Rg} {a x:Int} {v:Rg} (h0:0≤a) (h1:a < l.length) (hx:0≤x):rv (AW l a v) x = if x = a then v else rv l x:=RE h0 h1 hx
theorem DH {t:List Rg} {r:Int} (h0:0≤r) (h:t.length≤r):rv t r = DY:=Wb h0 h
structure Hh (r:Int) (x:Rg):Prop where
 k0:1≤x.kind
 k1:x.kind≤4
 t0:16 * r≤x.top
 t1:x.top≤16 * r + 16
 s0:16 * r≤x.Az
 s1:x.Az≤x.top
 l0:0≤x.AQ
 l1:x.AQ≤x.top - 16 * r
 fr:x.kind = 1→x.top = 16 * r
 ow:x.kind = 2↔0≤x.AT
 o0:-1≤x.AT
 o1:x.AT≤3
structure TOk (t:List Rg):Prop where
 n0:2≤t.length
 n1:t.length≤12
 e:rv t 0 = DY
 row:∀r:Int,1≤r→r < t.length→Hh r (rv t r)
 own:∀r s:Int,1≤r→r < t.length→1≤s→s < t.length→0≤(rv t r).AT→(rv t r).AT = (rv t s).AT→r = s
theorem Cx {r:Int} (h0:0≤r) (h1:r < 12):AM r = 16 * r:=by
 unfold AM;rw[if_neg (by omega)];omega
theorem Iv {r:Int} {x:Rg} (h0:0≤r) (h1:r < 12):Hj r x = true↔Hh r x:=by
 unfold Hj;rw[Cx h0 h1];simp only[z_b,z_d,ZA,Z7,beq_eq_false_iff_ne,beq_iff_eq];constructor
 ·rintro⟨⟨⟨⟨⟨⟨⟨⟨⟨⟨⟨a,b⟩,c⟩,d⟩,e⟩,f⟩,g⟩,h⟩,i⟩,j⟩,k⟩,l⟩;refine⟨a,b,c,d,e,f,g,h,λhk=>?_,?_,k,l⟩
  ·rcases i with i | i
   ·exact absurd hk i
   ·exact i
  ·rw[ZT] at j;simpa using j
 ·rintro⟨a,b,c,d,e,f,g,h,i,j,k,l⟩;refine⟨⟨⟨⟨⟨⟨⟨⟨⟨⟨⟨a,b⟩,c⟩,d⟩,e⟩,f⟩,g⟩,h⟩,?_⟩,?_⟩,k⟩,l⟩
  ·by_cases hk:x.kind = 1
   ·exact .inr (i hk)
   ·exact .inl hk
  ·rw[ZT];simpa using j
theorem MD:∀(l:List Rg) (i:Nat),i + l.length≤12→(MC i l = true↔(∀k (h:k < l.length),Hh (i + k:Nat) l[k])∧∀k m (h:k < m) (hm:m < l.length),0≤(l[k]).AT→(l[m]).AT≠(l[k]).AT):=by
 intro l;induction l with
 | nil=>intro i _;simp[MC]
 | cons x r ih=>
  intro i hi;simp only[Z8] at hi;simp only[MC,z_b,ih (i + 1) (by omega),Iv (r:=(i:Int)) (by omega) (by omega),ZA,z_d,ZE,Z7,beq_eq_false_iff_ne];constructor
  ·rintro⟨⟨h1,h2⟩,h3,h4⟩;refine⟨λk h=>?_,λk m h hm ho=>?_⟩
   ·cases k with
    | zero=>exact h1
    | succ k=>
     have:=h3 k (by simpa using h);rw[show i + (k + 1) = i + 1 + k from by omega];exact this
   ·cases m with
    | zero=>omega
    | succ m=>
     cases k with
     | zero=>
      simp only[List.getElem_cons_zero] at ho;rcases h2 with h2 | h2
      ·omega
      ·exact h2 _ (Yv (by simpa using hm))
     | succ k=>exact h4 k m (by omega) (by simpa using hm) (by simpa using ho)
  ·rintro⟨h1,h2⟩;refine⟨⟨h1 0 (by simp),?_⟩,λk h=>?_,λk m h hm ho=>?_⟩
   ·by_cases hx:x.AT < 0
    ·exact .inl hx
    ·refine .inr λy hy=>?_
     obtain⟨n,hn,rfl⟩:=ZH hy;exact h2 0 (n + 1) (by omega) (by simpa using hn) (by simpa using hx)
   ·have:=h1 (k + 1) (by simpa using h);rw[show i + 1 + k = i + (k + 1) from by omega];exact this
   ·exact h2 (k + 1) (m + 1) (by omega) (by simpa using hm) (by simpa using ho)
theorem Bk {t:List Rg}:BI t = true↔TOk t:=by
 cases t with
 | nil=>simp[BI];intro h;have:=h.n0;simp at this
 | cons e r=>
  simp only[BI,z_b,z_d,beq_iff_eq];have gz:rv (e :: r) 0 = e:=rfl;have gs:∀k (h:k < r.length),rv (e :: r) ((1 + k:Nat):Int) = r[k]:=λk h=>by
   rw[rv,FH (by simp;omega)];simp only[Nat.add_comm 1 k,List.getElem_cons_succ]
  constructor
  ·rintro⟨⟨⟨h1,h2⟩,h3⟩,h4⟩;rw[MD r 1 (by omega)] at h4;have sp:∀x:Int,1≤x→x < (e :: r).length→∃k,∃h:k < r.length,x = ((1 + k:Nat):Int)∧rv (e :: r) x = r[k]:=λx hx hx2=>by
    simp only[Z8] at hx2;refine⟨x.toNat - 1,by omega,by omega,?_⟩;have:=gs (x.toNat - 1) (by omega);rw[show ((1 + (x.toNat - 1):Nat):Int) = x from by omega] at this;exact this
   refine⟨by simp;omega,by simp;omega,by rw[gz];exact h3,λx hx hx2=>?_,λx y hx hx2 hy hy2 ho he=>?_⟩
   ·obtain⟨k,h,hk,hv⟩:=sp x hx hx2;rw[hv,hk];exact h4.1 k h
   ·obtain⟨k,h,hk,hv⟩:=sp x hx hx2;obtain⟨m,h',hm,hv'⟩:=sp y hy hy2;rw[hv,hv'] at he;rw[hv] at ho;rcases Nat.lt_trichotomy k m with c | c | c
    ·exact absurd he.symm (h4.2 k m c h' ho)
    ·omega
    ·exact absurd he (h4.2 m k c h (he▸ho))
  ·intro T;have n0:=T.n0;have n1:=T.n1;simp only[Z8] at n0 n1;refine⟨⟨⟨by omega,by omega⟩,by rw[← gz];exact T.e⟩,?_⟩;rw[MD r 1 (by omega)];refine⟨λk h=>?_,λk m h hm ho he=>?_⟩
   ·rw[← gs k h];exact T.row _ (by omega) (by simp;omega)
   ·rw[← gs m hm,← gs k (by omega)] at he;rw[← gs k (by omega)] at ho;have:=T.own _ _ (by omega) (by simp;omega) (by omega) (by simp;omega) ho he.symm;omega
theorem TOk.set {t:List Rg} {r:Int} {x:Rg} (T:TOk t) (h0:1≤r) (h1:r < t.length) (hx:Hh r x) (ho:∀s:Int,1≤s→s < t.length→s≠r→0≤x.AT→(rv t s).AT≠x.AT):TOk (AW t r x):=by
 have gs:∀s,0≤s→rv (AW t r x) s = if s = r then x else rv t s:=λs hs=>DS (by omega) h1 hs
 refine⟨by simpa using T.n0,by simpa using T.n1,?_,λs hs hs2=>?_,λs u hs hs2 hu hu2 h he=>?_⟩
 ·rw[gs 0 (by omega),if_neg (by omega)];exact T.e
 ·rw[gs s (by omega)];by_cases c:s = r
  ·rw[if_pos c,c];exact hx
  ·rw[if_neg c];exact T.row s hs (by simpa using hs2)
 ·simp only[Cq] at hs2 hu2;rw[gs s (by omega)] at h he;rw[gs u (by omega)] at he;by_cases c:s = r<;>by_cases d:u = r
  ·omega
  ·rw[if_pos c] at h he;rw[if_neg d] at he;exact absurd he.symm (ho u hu hu2 d h)
  ·rw[if_neg c] at h he;rw[if_pos d] at he;exact absurd he (ho s hs hs2 c (he▸h))
  ·rw[if_neg c] at h he;rw[if_neg d] at he;exact T.own s u hs hs2 hu hu2 h he
theorem TK (p:Rg→Bool):∀(l:List Rg) (n:Nat),(Bt p n l = -1∧∀k (h:k < l.length),p l[k] = false)∨∃k,∃h:k < l.length,Bt p n l = (n + k:Nat)∧p l[k] = true:=by
 intro l;induction l with
 | nil=>intro n;left;exact⟨rfl,λk h=>by simp at h⟩
 | cons x r ih=>
  intro n;simp only[Bt];cases hx:p x with
  | true=>right;exact⟨0,by simp,by simp,by simpa using hx⟩
  | false=>
   rcases ih (n + 1) with ⟨h1,h2⟩ | ⟨k,h,h1,h2⟩
   ·left;refine⟨by simpa using h1,λk h=>?_⟩;cases k with
    | zero=>exact hx
    | succ k=>exact h2 k (by simpa using h)
   ·right;exact⟨k + 1,by simpa using h,by simp[h1];omega,by simpa using h2⟩
theorem KQ {t:List Rg} {k:Nat} (h:k < t.tail.length):t.tail[k] = rv t ((1 + k:Nat):Int):=by
 rw[rv,FH (by simp at h;omega)];simp[List.getElem_tail,Nat.add_comm]
theorem Ez (p:Rg→Bool) (t:List Rg):(Bt p 1 t.tail = -1∧∀r:Int,1≤r→r < t.length→p (rv t r) = false)∨(1≤Bt p 1 t.tail∧Bt p 1 t.tail < t.length∧p (rv t (Bt p 1 t.tail)) = true):=by
 rcases TK p t.tail 1 with ⟨h1,h2⟩ | ⟨k,h,h1,h2⟩
 ·left;refine⟨h1,λr h0 hr=>?_⟩;have:=h2 (r.toNat - 1) (by simp;omega);rw[KQ,show ((1 + (r.toNat - 1):Nat):Int) = r from by omega] at this;exact this
 ·right;rw[KQ h] at h2;rw[h1];simp at h;exact⟨by omega,by omega,h2⟩
structure S5 (t:List Rg) (o size:Int) (t' : List Rg) (d:Int):Prop where
 ok:TOk t'
 len:t'.length = t.length
 d0:16≤d
 dk:(rv t' (d / 16)).kind = 2
 do_:(rv t' (d / 16)).AT = o
 dt:(rv t' (d / 16)).top = d
 fit:d + size≤16 * (d / 16) + 16
 top:∀r,0≤r→(rv t' r).top = (rv t r).top
 Az:∀r,0≤r→(rv t' r).Az = (rv t r).Az
 AQ:∀r,0≤r→(rv t' r).AQ = (rv t r).AQ
 frm:∀r,0≤r→((rv t' r).kind = 4↔(rv t r).kind = 4)
 oth:∀r,0≤r→(rv t r).kind = 2→(rv t r).AT≠o→rv t' r = rv t r
theorem NK {t:List Rg} {o size:Int} (T:TOk t) (o0:0≤o) (o1:o≤3) (hn:own t o < 0) (s1:size≤16):C5 t o = none∨∃t' r,C5 t o = some (t',r)∧S5 t o size t' (AM r):=by
 unfold C5;rw[if_pos (by simp[Bk.2 T,o0,o1,hn])];rcases Ez (λx=>x.kind == 1) t with ⟨h1,_⟩ | ⟨h1,h2,h3⟩
 ·left;simp only[h1];rfl
 ·right;generalize Bt (λx=>x.kind == 1) 1 t.tail = r at h1 h2 h3;have hk:(rv t r).kind = 1:=by simpa using h3
  have n1:=T.n1;have hb:=Cx (r:=r) (by omega) (by omega);have R:=T.row r h1 h2;have hno:∀s:Int,1≤s→s < t.length→¬ ((rv t s).kind = 2∧(rv t s).AT = o):=by
   intro s hs hs2 hh;rcases Ez (λx=>x.kind == 2 && x.AT == o) t with ⟨_,g⟩ | ⟨g,_,_⟩
   ·have:=g s hs hs2;simp[hh.1,hh.2] at this
   ·unfold own at hn;omega
  have hto:=R.fr hk;refine⟨_,_,by dsimp only;rw[if_neg (by omega),hb],?_⟩;have gs:∀s,0≤s→rv (AW t r ⟨2,o,16 * r,16 * r,0⟩) s = if s = r then ⟨2,o,16 * r,16 * r,0⟩ else rv t s:=λs hs=>DS (by omega) h2 hs
  have ed:16 * r / 16 = r:=by omega
  have s0':=R.s0;have s1':=R.s1;have l0':=R.l0;have l1':=R.l1;refine⟨?_,by simp,by rw[hb];omega,?_,?_,?_,by rw[hb];omega,?_,?_,?_,?_,?_⟩
  ·refine T.set h1 h2 ⟨by simp,by simp,by exact ZM _,?_,by exact ZM _,by exact ZM _,by simp,?_,?_,?_,?_,o1⟩ λs hs hs2 hne ho he=>?_
   ·show 16 * r≤16 * r + 16;omega
   ·show 0≤16 * r - 16 * r;omega
   ·intro h;cases h
   ·exact⟨λ_=>o0,λ_=>rfl⟩
   ·show -1≤o;omega
   ·have:=(T.row s hs hs2).ow.2 (by rw[he];exact o0);exact hno s hs hs2 ⟨this,he⟩
  ·rw[hb,ed,gs r (by omega),if_pos rfl]
  ·rw[hb,ed,gs r (by omega),if_pos rfl]
  ·rw[hb,ed,gs r (by omega),if_pos rfl]
  ·intro s hs;rw[gs s hs];split
   ·subst s;exact hto.symm
   ·rfl
  ·intro s hs;rw[gs s hs];split
   ·subst s;simp only[];omega
   ·rfl
  ·intro s hs;rw[gs s hs];split
   ·subst s;simp only[];omega
   ·rfl
  ·intro s hs;rw[gs s hs];split
   ·subst s;simp only[];omega
   ·exact Iff.rfl
  ·intro s hs hk2 ho;rw[gs s hs];split
   ·subst s;omega
   ·rfl
theorem F7 {t:List Rg} {o size:Int} (T:TOk t) (o0:0≤o) (o1:o≤3) (s0:1≤size) (s1:size≤16):BP t o size = none∨∃t' d,BP t o size = some (t',d)∧S5 t o size t' d:=by
 unfold BP;rw[if_pos (by simp[Bk.2 T,o0,o1,s0,s1])];have n1:=T.n1;dsimp only;rcases Ez (λx=>x.kind == 2 && x.AT == o) t with ⟨h1,h2⟩ | ⟨h1,h2,h3⟩
 ·have ho:own t o = -1:=h1;rw[ho];rw[if_neg (by omega)];rcases NK (size:=size) T o0 o1 (by rw[ho];omega) s1 with h | ⟨t',r,h,hr⟩
  ·left;simp only[h]
  ·right;simp only[h];exact⟨_,_,rfl,hr⟩
 ·have ho:own t o = Bt (λx=>x.kind == 2 && x.AT == o) 1 t.tail:=rfl;rw[← ho] at h1 h2 h3;generalize own t o = r at h1 h2 h3;simp only[z_b,beq_iff_eq] at h3;have R:=T.row r h1 h2;have hb:=Cx (r:=r) (by omega) (by omega);rw[if_pos (by omega),Cj (by omega) h2];dsimp only;rw[hb];by_cases hf:(rv t r).top + size≤16 * r + 16
  ·right;have t0:=R.t0;have ed:(rv t r).top / 16 = r:=by omega
   refine⟨_,_,by rw[if_pos hf],T,rfl,by omega,by rw[ed];exact h3.1,by rw[ed];exact h3.2,by rw[ed],by rw[ed];exact hf,λ_ _=>rfl,λ_ _=>rfl,λ_ _=>rfl,λ_ _=>Iff.rfl,λ_ _ _ _=>rfl⟩
  ·rw[if_neg hf];have hcl:CS t r = some (AW t r { rv t r with kind:=3,AT:=-1 }):=by
    unfold CS;rw[if_pos (by simp[Bk.2 T,h1]),Cj (by omega) h2];dsimp only;rw[if_pos (by simpa using h3.1)]
   rw[hcl];simp only[Zx];have gs:∀s,0≤s→rv (AW t r { rv t r with kind:=3,AT:=-1 }) s = if s = r then { rv t r with kind:=3,AT:=-1 } else rv t s:=λs hs=>DS (by omega) h2 hs
   have T2:TOk (AW t r { rv t r with kind:=3,AT:=-1 }):=by
    refine T.set h1 h2 ⟨by simp,by simp,R.t0,R.t1,R.s0,R.s1,R.l0,R.l1,?_,?_,by simp,by simp⟩ λs hs hs2 hne ho he=>?_
    ·intro h;cases h
    ·simp
    ·simp at ho
   have hno:own (AW t r { rv t r with kind:=3,AT:=-1 }) o < 0:=by
    rcases Ez (λx=>x.kind == 2 && x.AT == o) (AW t r { rv t r with kind:=3,AT:=-1 }) with ⟨g,_⟩ | ⟨g1,g2,g3⟩
    ·unfold own;rw[g];decide
    ·exfalso;generalize Bt (λx=>x.kind == 2 && x.AT == o) 1 (AW t r { rv t r with kind:=3,AT:=-1 }).tail = s at g1 g2 g3;rw[gs s (by omega)] at g3;simp only[Cq] at g2;by_cases c:s = r
     ·rw[if_pos c] at g3;simp at g3
     ·rw[if_neg c] at g3;simp only[z_b,beq_iff_eq] at g3;exact c (T.own s r g1 g2 h1 h2 (by rw[g3.2];exact o0) (by rw[g3.2,h3.2]))
   rcases NK (size:=size) T2 o0 o1 hno s1 with h | ⟨t',u,h,hr⟩
   ·left;simp only[h]
   ·right;simp only[h];refine⟨_,_,rfl,hr.ok,by rw[hr.len];simp,hr.d0,hr.dk,hr.do_,hr.dt,hr.fit,λs hs=>?_,λs hs=>?_,λs hs=>?_,λs hs=>?_,λs hs hk hoo=>?_⟩
    ·rw[hr.top s hs,gs s hs];split
     ·subst s;rfl
     ·rfl
    ·rw[hr.Az s hs,gs s hs];split
     ·subst s;rfl
     ·rfl
    ·rw[hr.AQ s hs,gs s hs];split
     ·subst s;rfl
     ·rfl
    ·rw[hr.frm s hs,gs s hs];split
     ·subst s;simp only[];omega
     ·exact Iff.rfl
    ·have hne:s≠r:=by intro c;subst c;exact hoo h3.2
     have:=hr.oth s hs (by rw[gs s hs,if_neg hne];exact hk) (by rw[gs s hs,if_neg hne];exact hoo);rw[this,gs s hs,if_neg hne]
end Sm
end
