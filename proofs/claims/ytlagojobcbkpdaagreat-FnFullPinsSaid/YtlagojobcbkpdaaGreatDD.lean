/- A part of the proof of the given row: the walk of the law and of all that it calls. Conditions: none. -/
import Derived.Laws.StructEq
import Derived.ChangeKeysEq
import Derived.Test.YtlagojobcbkpdaaGreatDC
set_option linter.unusedVariables false
set_option linter.unusedSimpArgs false
set_option maxRecDepth 100000
section
namespace Go.Lf
open Go Sm
def Ac {α:Type} (f:α→List Value) (l:List α):List Value:=(l.map f).flatten
@[reducible] def eRg (x:Rg):List Value:=[I x.kind,I x.AV,I x.top,I x.BE,I x.AO]
@[reducible] def eOp (o:Sm.Op):List Value:=[I o.kind,I o.a,I o.b,I o.c,I o.f,I o.v,I o.sh.refs,I o.sh.nums]
def Ak (t:Thr) (rv:Value):List Value:=[rv,I t.next,I t.Ai,I t.pc,I t.h,I t.g,I t.k,I t.u,I t.v,I t.sh.refs,I t.sh.nums,I t.src,I t.dst,I t.size,I t.i,I t.word,I t.ret]
@[reducible] def eEv (e:Ev):List Value:=[I e.thread,I e.next,I e.ans,I e.code]
def Fz (R:RM) (v:Value) (w n:Nat) (cells:List Value):Prop:=
 (v = SN∧n = 0∧cells = [])∨∃b o cap t cs,v = .slice (some ⟨b,o,none⟩) n cap∧R b = some (C t cs)∧o + n * w≤cs.length∧(cs.drop o).take (n * w) = cells∧n≤cap
theorem Fz.le {R R' : RM} {v:Value} {w n:Nat} {cells:List Value} (h:R.le R') (H:Fz R v w n cells):Fz R' v w n cells:=by
 rcases H with H | ⟨b,o,cap,t,cs,h1,h2,h3,h4,h5⟩
 ·exact .inl H
 ·exact .inr ⟨b,o,cap,t,cs,h1,h _ _ h2,h3,h4,h5⟩
def BG (R:RM) (v:Value) (l:List Int):Prop:=Fz R v 1 l.length (l.map I)
def Ops (R:RM) (v:Value) (l:List Sm.Op):Prop:=Fz R v 8 l.length (Ac eOp l)
def EY (R:RM) (v:Value) (l:List (List Sm.Op)):Prop:=∃vs,Fz R v 1 l.length vs∧vs.length = l.length∧∀i (h:i < l.length),∃x,vs[i]? = some x∧Ops R x (l[i])
structure Img where
 Aa:Value
 wb:Nat
 wc:Nat
 wsp:List Value
 tb:Nat
 tc:Nat
 tsp:List Value
 mb:Nat
 mc:Nat
 msp:List Value
 Ae:Value
 want:Value
 A6:Value
 old:Value
 AG:Value
 hb:Nat
 hc:Nat
 hsp:List Value
 rv:List Value
 AM:Value
 ev:Option (Nat × Nat)
 esp:List Value
def evV (S:Sim) (g:Img):Value:=match g.ev with | none=>SN | some (b,c)=>S0 b S.ev.length c
def evD (S:Sim) (g:Img):Chs:=match g.ev with | none=>[] | some (b,_)=>[(b,C E8 (Ac eEv S.ev ++ g.esp))]
def BF (x:Col) (sv:Value):List Value:=[I x.pc,.bool x.Ae,I x.want,sv,I x.r,I x.p,I x.i,I x.sh.refs,I x.sh.nums,I x.v,I x.f,I x.src,I x.dst,I x.size,I x.word]
def C0 (S:Sim) (g:Img):List Value:=
 I S.c.AB :: I S.c.A6 :: I S.c.AS :: g.Aa :: .slice (some ⟨g.wb,0,none⟩) S.AA.length g.wc :: .slice (some ⟨g.tb,0,none⟩) S.A0.length g.tc :: .slice (some ⟨g.mb,0,none⟩) S.AK.length g.mc ::
 I S.Ad :: .bool S.stop :: .bool S.full :: g.Ae :: g.want :: g.A6 :: g.old :: g.AG :: I S.Aj :: I S.BA :: .slice (some ⟨g.hb,0,none⟩) S.th.length g.hc ::
 I S.col.pc :: .bool S.col.Ae :: I S.col.want :: g.AM :: I S.col.r :: I S.col.p :: I S.col.i :: I S.col.sh.refs :: I S.col.sh.nums :: I S.col.v :: I S.col.f :: I S.col.src :: I S.col.dst :: I S.col.size :: I S.col.word ::
 evV S g :: .bool S.used :: []
def E3 (l:List Thr) (rv:List Value):List Value:=(List.zipWith Ak l rv).flatten
def Ab (p:Nat) (S:Sim) (g:Img):Chs:=
 (p,C Bg (C0 S g)) :: (g.wb,C AX (S.AA.map I ++ g.wsp)) :: (g.tb,C AI (Ac eRg S.A0 ++ g.tsp)) :: (g.mb,C B7 (S.AK.map Value.bool ++ g.msp)) :: (g.hb,C AY (E3 S.th g.rv ++ g.hsp)) :: evD S g
structure Ok (R:RM) (S:Sim) (g:Img):Prop where
 Aa:EY R g.Aa S.Aa
 old:BG R g.old S.old
 AG:BG R g.AG S.AG
 AM:BG R g.AM S.col.AM
 rvl:g.rv.length = S.th.length
 rv:∀i (h:i < S.th.length) (h' : i < g.rv.length),BG R (g.rv[i]) (S.th[i]).AC
 ev0:g.ev = none→S.ev = []
 ev1:∀b c,g.ev = some (b,c)→S.ev.length≤c∧g.esp.length = (c - S.ev.length) * 4
 wl:S.AA.length≤1000
 tl:S.A0.length≤1000
 ml:S.AK.length≤1000
 hl:S.th.length≤1000
 fl:flat g.Ae = true∧flat g.want = true∧flat g.A6 = true
 wk:S.AA.length≤g.wc
 tk:S.A0.length≤g.tc
 mk_:S.AK.length≤g.mc
theorem Ok.le {R R' : RM} {S:Sim} {g:Img} (h:R.le R') (H:Ok R S g):Ok R' S g:=by
 refine⟨?_,H.old.le h,H.AG.le h,H.AM.le h,H.rvl,λi h1 h2=>(H.rv i h1 h2).le h,H.ev0,H.ev1,H.wl,H.tl,H.ml,H.hl,H.fl,H.wk,H.tk,H.mk_⟩;obtain⟨vs,h1,h2,h3⟩:=H.Aa;exact⟨vs,h1.le h,h2,λi hi=>by obtain⟨x,hx,ho⟩:=h3 i hi;exact⟨x,hx,ho.le h⟩⟩
def D0 (p:Nat) (S' : Sim) (r:Value→Prop) (v:Value) (R' : RM) (A:Chs):Prop:=r v∧∃g',A = Ab p S' g'∧Ok R' S' g'
instance (priority:=low) At.appr (A F:Chs) (b:Nat) (o:Obj) [t:At F b o]:At (A ++ F) b o:=⟨Za _ t.m⟩
instance (priority:=low) Up.appr (A D:Chs) (b:Nat) (o o' : Obj) (D' : Chs) [t:Up D b o o' D']:Up (A ++ D) b o o' (A ++ D'):=
 ⟨Za _ t.m,Za _ t.m',by simp[t.f],λb' x h=>by
  rcases ZB.1 h with h | h
  ·exact .inr (ZP _ h)
  ·rcases t.u b' x h with h | h
   ·exact .inl h
   ·exact .inr (Za _ h)⟩
instance (priority:=low) Tk.appr (A D:Chs) (b:Nat) (o:Obj) (E:Chs) [t:Tk D b o E]:Tk (A ++ D) b o (A ++ E):=
 ⟨(t.p.append_left A).trans ZH⟩
instance Sp.pre (A F:Chs):Sp (A ++ F) A F:=⟨ZU _⟩
instance (priority:=low) Sp.skip (c:Nat × Obj) (D A F:Chs) [s:Sp D A F]:Sp (c :: D) A (c :: F):=⟨(s.p.cons c).trans (ZH.symm)⟩
instance (priority:=low) Sp.self (A:Chs):Sp A A []:=⟨σ⟩
instance (priority:=low) Sf.appl (X G F:Chs) [s:Sf G F]:Sf (X ++ G) F:=⟨by obtain⟨Y,h⟩:=s.p;exact⟨X ++ Y,by rw[h,Yr]⟩⟩
section sim
variable (p:Nat) (S:Sim) (g:Img)
instance At.sim:At (Ab p S g) p (C Bg (C0 S g)):=⟨by simp[Ab]⟩
instance At.AA:At (Ab p S g) g.wb (C AX (S.AA.map I ++ g.wsp)):=⟨by simp[Ab]⟩
instance At.A0:At (Ab p S g) g.tb (C AI (Ac eRg S.A0 ++ g.tsp)):=⟨by simp[Ab]⟩
instance At.AK:At (Ab p S g) g.mb (C B7 (S.AK.map Value.bool ++ g.msp)):=⟨by simp[Ab]⟩
instance At.ths:At (Ab p S g) g.hb (C AY (E3 S.th g.rv ++ g.hsp)):=⟨by simp[Ab]⟩
end sim
class Fd (D:Chs) (p:Nat) (S:outParam Sim) (g:outParam Img) (G:outParam Chs):Prop where
 ex:D.Perm (Ab p S g ++ G)
instance Fd.front (p:Nat) (S:Sim) (g:Img) (F:Chs):Fd (Ab p S g ++ F) p S g F:=⟨ZU _⟩
instance Fd.self (p:Nat) (S:Sim) (g:Img):Fd (Ab p S g) p S g []:=⟨σ⟩
instance (priority:=low) Fd.cons (c:Nat × Obj) (D G:Chs) (p:Nat) (S:Sim) (g:Img) [w:Fd D p S g G]:Fd (c :: D) p S g (c :: G):=⟨(w.ex.cons c).trans ZH.symm⟩
instance (priority:=low) Fd.appr (A D G:Chs) (p:Nat) (S:Sim) (g:Img) [w:Fd D p S g G]:Fd (A ++ D) p S g (A ++ G):=
 ⟨(w.ex.append_left A).trans (by rw[← Yr,← Yr];exact aN G Zv)⟩
theorem Gn {cs:List Value} {o:Nat} {v:Value} (h:o < cs.length):lay cs o [v] = cs.set o v:=by
 simp only[lay,Z7];rw[List.set_eq_take_append_cons_drop,if_pos h];simp
section stores
variable {R:RM} {D G:Chs} {p:Nat} {S:Sim} {g:Img} {m:M}
theorem jss {o n:Nat} {x:Value} (S' : Sim) (g' : Img) [w:Fd D p S g G] (hn:(cl x).length = n) (hf:Br (cl x) = true) (ho:o + n≤35) (hc:lay (C0 S g) o (cl x) = C0 S' g')
  (hb:(Ab p S g).tail = (Ab p S' g').tail) (H:J R (Ab p S' g' ++ G) m):J R D (ST n (.pointer (some ⟨p,o,none⟩)) x m):=by
 intro h hs;refine js (R:=R) (D:=Ab p S g ++ G) (t:=Bg) (cs:=C0 S g) (cs':=C0 S' g') (D':=Ab p S' g' ++ G) hn hf ho hc H h (hs.perm w.ex) (u:=?_);have e1:Ab p S g = (p,C Bg (C0 S g)) :: (Ab p S' g').tail:=by rw[← hb];rfl
 have e2:Ab p S' g' = (p,C Bg (C0 S' g')) :: (Ab p S' g').tail:=rfl;rw[e1,e2];exact inferInstance
theorem jsw {i:Nat} {v:Int} (S' : Sim) [w:Fd D p S g G] (hi:i < S.AA.length) (hS:S' = { S with AA:=S.AA.set i v }) (H:J R (Ab p S' g ++ G) m):J R D (ST 1 (.pointer (some ⟨g.wb,i,none⟩)) (I v) m):=by
 subst hS;intro h hs;refine js (R:=R) (D:=Ab p S g ++ G) (t:=AX) (cs:=S.AA.map I ++ g.wsp) (cs':=(S.AA.set i v).map I ++ g.wsp) (D':=Ab p { S with AA:=S.AA.set i v } g ++ G) rfl rfl (by simp;omega) ?_ H h (hs.perm w.ex) (u:=?_)
 ·rw[show cl (I v) = [I v] from rfl,Gn (by simp;omega),List.set_append_left _ _ (by simpa using hi),List.map_set]
 ·have e1:C0 { S with AA:=S.AA.set i v } g = C0 S g:=by simp[C0,evV]
  unfold Ab evD;rw[e1];exact inferInstance
theorem Ay {S' : Sim} {R0:RM} {F:Chs} {r:Value→Prop} {v:Value} [w:Fd D p S g G] (h1:R0.le R) (h2:r v) (hS:S = S') (ok:Ok R S' g) [x:Sf G F]:J R D (Ey R0 F (D0 p S' r) v):=by
 subst hS;intro h hs;exact B9 (D:=Ab p S g ++ G) h1 ⟨h2,g,rfl,ok⟩ h (hs.perm w.ex)
end stores
theorem Fj {ws:List Int} {sp:List Value} {i:Nat} (h:i < ws.length):(ws.map I ++ sp)[i]? = some (I (ws[i])):=by
 rw[Zg (by simpa using h)];simp[h]
theorem Io {ws:List Bool} {sp:List Value} {i:Nat} (h:i < ws.length):(ws.map Value.bool ++ sp)[i]? = some (.bool (ws[i])):=by
 rw[Zg (by simpa using h)];simp[h]
theorem Av {α:Type} {l:List α} {i:Int} {v:α} (h:idx l i = some v):0≤i∧i < l.length∧∃hi:i.toNat < l.length,l[i.toNat] = v:=by
 unfold idx at h;split at h
 ·obtain⟨hi,he⟩:=ZJ.1 h;exact⟨‹_›,ω,hi,he⟩
 ·cases h
theorem Bw {w:Nat}:∀{ls:List (List Value)},(∀x∈ls,x.length = w)→ls.flatten.length = ls.length * w:=by
 intro ls;induction ls with
 | nil=>intro _;simp
 | cons a r ih=>
  intro h;rw[Zz,Yk,ih λx hx=>h x (by simp[hx]),h a σ,Yt,Nat.add_mul];omega
theorem FZ {w:Nat} {sp:List Value}:∀{ls:List (List Value)} (i:Nat) (hi:i < ls.length),(∀x∈ls,x.length = w)→((ls.flatten ++ sp).drop (i * w)).take w = ls[i]:=by
 intro ls;induction ls with
 | nil=>intro i hi;simp at hi
 | cons a r ih=>
  intro i hi h;have ha:a.length = w:=h a σ;cases i with
  | zero=>
   rw[aa,Zr,Zz,Yr,ZZ ω,← ha,List.take_length];rfl
  | succ i=>
   rw[Zz,Yr,Nat.add_mul,Nat.one_mul,List.drop_append,Yz (by rw[ha];exact Nat.le_add_left _ _),zl,ha,Nat.add_sub_cancel];simpa using ih i (by simpa using hi) λx hx=>h x (by simp[hx])
theorem Gr {a b l:List Value} {o:Nat} (h:a.length≤o):lay (a ++ b) o l = a ++ lay b (o - a.length) l:=by
 simp only[lay];rw[List.take_append,Ys h,List.drop_append,Yz ω,zl];rw[show o + l.length - a.length = o - a.length + l.length from ω];simp[Yr]
theorem Qj {a b l:List Value} (h:l.length = a.length):lay (a ++ b) 0 l = l ++ b:=by
 simp only[lay,List.take_zero,zl,Z6,h,List.drop_left]
theorem KM {w:Nat} {sp x:List Value} (hx:x.length = w):∀{ls:List (List Value)} (i:Nat),i < ls.length→(∀x∈ls,x.length = w)→lay (ls.flatten ++ sp) (i * w) x = (ls.set i x).flatten ++ sp:=by
 intro ls;induction ls with
 | nil=>intro i hi;simp at hi
 | cons a r ih=>
  intro i hi h;have ha:a.length = w:=h a σ;cases i with
  | zero=>rw[aa,Zz,Yr,Qj ω];simp
  | succ i=>
   rw[Zz,Yr,Gr (by rw[ha,Nat.add_mul,Nat.one_mul];exact Nat.le_add_left _ _),ha,Nat.add_mul,Nat.one_mul,Nat.add_sub_cancel,ih i (by simpa using hi) λx hx=>h x (by simp[hx])];simp
theorem UY (t:Thr) (v:Value):(Ak t v).length = 17:=rfl
theorem Mz {l:List Thr} {rv:List Value}:∀x∈List.zipWith Ak l rv,x.length = 17:=by
 intro x hx;obtain⟨n,hn,rfl⟩:=ZF hx;rw[List.getElem_zipWith];rfl
theorem Qy {l:List Thr} {rv sp:List Value} {i:Nat} (h:i < l.length) (h' : i < rv.length):((E3 l rv ++ sp).drop (i * 17)).take 17 = Ak (l[i]) (rv[i]):=by
 rw[E3,FZ i (by simp;omega) Mz,List.getElem_zipWith]
theorem VX {l:List Thr} {rv sp:List Value} {i:Nat} {t:Thr} {v:Value} (h:i < l.length) (h' : i < rv.length):lay (E3 l rv ++ sp) (i * 17) (Ak t v) = E3 (l.set i t) (rv.set i v) ++ sp:=by
 rw[E3,KM (UY t v) i (by simp;omega) Mz,E3];congr 2;apply List.ext_getElem?;intro n;simp only[aV,List.getElem?_zipWith,List.length_zipWith];by_cases hn:i = n
 ·subst hn;rw[if_pos rfl,if_pos ω,if_pos rfl,if_pos h,if_pos rfl,if_pos h']
 ·rw[if_neg hn,if_neg hn,if_neg hn]
theorem Ns {l:List Thr} {rv:List Value} (h:rv.length = l.length):(E3 l rv).length = l.length * 17:=by
 rw[E3,Bw Mz];simp[h]
theorem Ij {α:Type} {f:α→List Value} {w:Nat} (hf:∀x,(f x).length = w) {l:List α}:∀x∈l.map f,x.length = w:=by
 intro x hx;obtain⟨a,_,rfl⟩:=ZK.1 hx;exact hf a
theorem DQ {α:Type} {f:α→List Value} {w:Nat} (hf:∀x,(f x).length = w) {l:List α} {sp:List Value} {i:Nat} (h:i < l.length):((Ac f l ++ sp).drop (i * w)).take w = f (l[i]):=by
 rw[Ac,FZ i (by simpa using h) (Ij hf)];simp
theorem M6 {α:Type} {f:α→List Value} {w:Nat} (hf:∀x,(f x).length = w) {l:List α} {sp:List Value} {i:Nat} {x:α} (h:i < l.length):lay (Ac f l ++ sp) (i * w) (f x) = Ac f (l.set i x) ++ sp:=by
 rw[Ac,KM (hf x) i (by simpa using h) (Ij hf),Ac,List.map_set]
theorem DL {α:Type} {f:α→List Value} {w:Nat} (hf:∀x,(f x).length = w) (l:List α):(Ac f l).length = l.length * w:=by
 rw[Ac,Bw (Ij hf)];simp
section A6
variable {R:RM} {D G:Chs} {p:Nat} {S:Sim} {g:Img} {m:M} {k:Value→M}
theorem VC (S:Sim) (g:Img) (th:List Thr) (rv:List Value) (h:th.length = S.th.length):C0 { S with th:=th } { g with rv:=rv } = C0 S g:=by simp[C0,evV,h]
theorem V3 {i:Nat} [w:Fd D p S g G] (hi:i < S.th.length) (hr:g.rv.length = S.th.length) (H:J R D (k (.agg (Ak (S.th[i]) (g.rv[i]'(ω))).toArray))):J R D (LA 17 (.pointer (some ⟨g.hb,0 + i * 17,none⟩)) k):=by
 intro h hs;rw[Z6];refine jla (R:=R) (D:=Ab p S g ++ G) (t:=AY) (cs:=E3 S.th g.rv ++ g.hsp) (k:=λv h=>k v h) ?_ (Qy hi ω) (λh' hs'=>H h' (hs'.perm w.ex.symm)) h (hs.perm w.ex);rw[Yk,Ns hr];omega
theorem jst {i:Nat} {t:Thr} {v:Value} (S' : Sim) (g' : Img) [w:Fd D p S g G] (hi:i < S.th.length) (hr:g.rv.length = S.th.length) (hv:flat v = true) (hS:S' = { S with th:=S.th.set i t }) (hg:g' = { g with rv:=g.rv.set i v })
  (H:J R (Ab p S' g' ++ G) m):J R D (ST 17 (.pointer (some ⟨g.hb,0 + i * 17,none⟩)) (.agg (Ak t v).toArray) m):=by
 subst hS hg;intro h hs;rw[Z6];refine js (R:=R) (D:=Ab p S g ++ G) (t:=AY) (cs:=E3 S.th g.rv ++ g.hsp) (cs':=E3 (S.th.set i t) (g.rv.set i v) ++ g.hsp) (D':=Ab p { S with th:=S.th.set i t } { g with rv:=g.rv.set i v } ++ G) rfl ?_ ?_ (VX hi ω) H h (hs.perm w.ex) (u:=?_)
 ·show (flat v && true) = true;rw[hv];rfl
 ·show i * 17 + 17≤_;rw[Yk,Ns hr];omega
 ·have e1:=VC S g (S.th.set i t) (g.rv.set i v) σ;unfold Ab evD;rw[e1];exact inferInstance
end A6
theorem Ok.setT {R:RM} {S:Sim} {g:Img} (H:Ok R S g) {i:Nat} {t:Thr} {v:Value} (hv:BG R v t.AC):Ok R { S with th:=S.th.set i t } { g with rv:=g.rv.set i v }:=by
 refine⟨H.Aa,H.old,H.AG,H.AM,by simp[H.rvl],λj h1 h2=>?_,H.ev0,H.ev1,H.wl,H.tl,H.ml,by simpa using H.hl,H.fl,H.wk,H.tk,H.mk_⟩;simp only[ZV] at h1 h2;simp only[List.getElem_set];by_cases hij:i = j
 ·simp only[if_pos hij];exact hv
 ·simp only[if_neg hij];exact H.rv j h1 h2
theorem St.le {h:DK} {R R' : RM} {D:Chs} (hr:R.le R') (hs:St h R' D):St h R D:=by
 refine⟨λb o hb=>hs.rd b o (hr b o hb),λb o hm=>⟨(hs.at_ b o hm).1,?_⟩,hs.nd⟩;cases hb:R b with
 | none=>rfl
 | some x=>have:=hr b x hb;rw[(hs.at_ b o hm).2] at this;cases this
def Pu (f:Nat) (args:List Value) (v:Value):Prop:=∀R,Fn P f args R [] λv' _ _=>v' = v
theorem jp {f:Nat} {args:List Value} {v:Value} {R:RM} {D:Chs} {k:Value→M} (hF:Pu f args v) (H:J R D (k v)):J R D (CA P f args k):=by
 intro h hs;refine FB ?_ (hF R D h hs);rintro v' h' ⟨R',A',h1,h2,h3⟩;subst h3;exact H h' (h2.drop.le h1)
section lit
variable {R:RM} {D:Chs} {k:Value→M} {a b:M} {x y:Value}
theorem EA (H:J R D (k x)):J R D (PK (.bool true) x y k):=H
theorem EI (H:J R D (k y)):J R D (PK (.bool false) x y k):=H
theorem jtt (H:J R D a):J R D (GT (.bool true) true a b):=H
theorem jft (H:J R D b):J R D (GT (.bool false) true a b):=H
theorem jtf (H:J R D b):J R D (GT (.bool true) false a b):=H
theorem jff (H:J R D a):J R D (GT (.bool false) false a b):=H
end lit
theorem CT (a:Int) (h:AN a≤9223372036854775807):Pu Hy [I a] (I (AN a)):=by
 intro R;refine Ms λF=>?_
 refine z_1 ?_;refine jlt ?_;refine jif (λhc=>?_) (λhc=>?_)
 ·refine B9 (A:=[]) (RM.le.refl R) ?_;have:=z_f hc;rw[AN,if_pos this]
 ·have:=z_g hc;have e:a.tdiv 16 = a / 16:=Zk ω;refine MX δ (by rw[e];rw[AN,if_neg this] at h;constructor<;>omega) ?_;refine B9 (A:=[]) (RM.le.refl R) ?_;rw[AN,if_neg this,e]
theorem Ht (r:Int) (R:RM) (F:Chs):J R ([] ++ F) (F3 (I r) (Ey R F λv' _ _=>v' = I (AH r))):=by
 unfold F3;refine CQ (jlt (BR (λhc=>jge (Bv λe he=>?_)) (λhc=>Bv λe he=>?_)))<;>
  simp only[List.map,zj,z_t] at he<;>simp only[he,hc,cond_true,cond_false]
 ·refine jif (λhd=>?_) (λhd=>?_)
  ·refine B9 (A:=[]) (RM.le.refl R) ?_;have:=z_f hd;rw[AH,if_pos (.inr this)]
  ·have h1:=z_g hd;have h2:=z_g hc;refine GX (by constructor<;>omega) ?_;refine B9 (A:=[]) (RM.le.refl R) ?_;rw[AH,if_neg ω]
 ·refine EA (DI ?_);refine B9 (A:=[]) (RM.le.refl R) ?_;have:=z_f hc;rw[AH,if_pos (.inl this)]
theorem Bc (r:Int):Pu Gd [I r] (I (AH r)):=λR=>LQ λF=>Ht r R F
@[reducible] def eSh (s:Shp):Value:=.agg #[I s.refs,I s.nums]
theorem MO (s:Shp) (R:RM) (F:Chs):J R ([] ++ F) (GW (eSh s) (Ey R F λv' _ _=>v' = .bool (BP s))):=by
 unfold GW;refine ja λb=>?_
 have fin:∀c,c = BP s→J R ((b,C G4 [I s.refs,I s.nums]) :: ([] ++ F)) (Ey R F (λv' _ _=>v' = Value.bool (BP s)) (.bool c)):=λc hc=>B9 (A:=[]) (RM.le.refl R) (by rw[hc])
 refine CQ (jl rfl (jge (Bt (λh1=>jl rfl (jle (Bv λe he=>?_))) (λh1=>Bv λe he=>?_))))<;>
  simp only[List.map,zj,z_t,h1] at he<;>simp only[he]
 ·refine CQ (EA (Bt (λh2=>jl rfl (jge (Bv λe he=>?_))) (λh2=>Bv λe he=>?_)))<;>
   simp only[List.map,zj,z_t,h2] at he<;>simp only[he]
  ·refine CQ (EA (Bt (λh3=>jl rfl (jle (Bv λe he=>?_))) (λh3=>Bv λe he=>?_)))<;>
    simp only[List.map,zj,z_t,h3] at he<;>simp only[he]
   ·refine EA (fin _ ?_);simp at h1 h2 h3;simp[BP,h1,h2,h3]
   ·refine EI (fin _ ?_);simp at h1 h2 h3;simp[BP,h1,h2];omega
  ·refine CQ (EI (jft (Bv λe he=>?_)));refine z_V ?_;refine EI (fin _ ?_);simp at h1 h2;simp[BP,h1];omega
 ·refine CQ (EI (jft (Bv λe he=>?_)));refine z_V ?_;refine CQ (EI (jft (Bv λe he=>?_)));refine z_V ?_;refine EI (fin _ ?_);simp at h1;simp[BP];omega
theorem Im (s:Shp):Pu JR [eSh s] (.bool (BP s)):=λR=>Of λF=>MO s R F
theorem Dw {s:Shp}:BP s = true↔0≤s.refs∧s.refs≤4∧0≤s.nums∧s.nums≤4:=by simp[BP,and_assoc]
theorem EO (s:Shp):Pu H8 [eSh s] (I (AZ s)):=by
 intro R;refine LZ λF=>?_
 refine z_1 ?_;refine ja λb=>jla (l:=[I s.refs,I s.nums]) σ rfl (jp (Im s) ?_)
 refine jif (λh=>?_) (λh=>?_)
 ·refine B9 (A:=[]) (RM.le.refl _) ?_;simp only[Z9] at h;simp[AZ,h]
 ·simp only[ZM] at h;obtain⟨h0,h1,h2,h3⟩:=Dw.1 h;refine jl rfl ?_;refine GX ⟨ω,ω⟩ ?_;refine jl rfl ?_;refine jad ?_;refine B9 (A:=[]) (RM.le.refl _) ?_;simp[AZ,h]
theorem CJ (s:Shp):Pu Gz [eSh s] (I (AF s)):=by
 intro R;refine Lo λF=>?_
 refine z_1 ?_;refine ja λb=>jla (l:=[I s.refs,I s.nums]) σ rfl (jp (Im s) ?_)
 refine jif (λh=>?_) (λh=>?_)
 ·refine B9 (A:=[]) (RM.le.refl _) ?_;simp only[Z9] at h;simp[AF,h]
 ·simp only[ZM] at h;obtain⟨h0,h1,h2,h3⟩:=Dw.1 h;refine jl rfl ?_;refine jad ?_;refine jl rfl ?_;refine jad ?_;refine B9 (A:=[]) (RM.le.refl _) ?_;simp[AF,h]
theorem Bn {R:RM} {c:Nat × Obj} {D:Chs} {m:M} (H:J R D m):J R (c :: D) m:=λh hs=>H h (St.drop (A:=[c]) hs)
theorem Ei (w:Int):Pu Ip [I w] (.tuple #[eSh (AJ w).1,.bool (AJ w).2]):=by
 intro R;refine Oh λF=>?_
 refine z_1 ?_;refine ja λb=>?_
 refine CQ (CQ ?_);refine jlp (λn vs R' D'=>R' = R∧D' = (b,C G4 [I 0,I 0]) :: ([] ++ F)∧∃r:Nat,r≤5∧vs = [I w,Pt b,I r]∧n = 5 - r∧∀r' n' : Nat,r' < r→n'≤4→(16 * r' + n' : Int)≠w)
  (n:=5) ⟨rfl,rfl,0,ω,rfl,rfl,λr' n' h=>ω⟩ ?_
 rintro n e R' D' K ⟨rfl,rfl,r,hr,he,hn,Bx⟩ hK;refine z_V ?_;refine jle ?_;refine jif (λhc=>?_) (λhc=>?_)
 ·have hc:=z_f hc;refine CQ (CQ (CQ ?_));refine jlp (λm vs R2 D'=>R2 = R'∧D' = (b,C G4 [I 0,I 0]) :: ([] ++ F)∧∃k:Nat,k≤5∧vs = [I w,Pt b,I r,I k]∧m = 5 - k∧∀n' : Nat,n' < k→(16 * r + n' : Int)≠w)
   (n:=5) ⟨rfl,rfl,0,ω,rfl,rfl,λn' h=>ω⟩ ?_
  rintro m e R' D' K' ⟨rfl,rfl,k,hk,he,hm,hall'⟩ hK';refine z_V ?_;refine jle ?_;refine jif (λhd=>?_) (λhd=>?_)
  ·have hd:=z_f hd;refine jbd (cs:=[I r,I k]) rfl rfl ?_;refine ja λb'=>?_
   refine js (cs':=[I r,I k]) rfl rfl σ rfl ?_;refine jla (l:=[I r,I k]) σ rfl (jp (EO ⟨r,k⟩) ?_);refine jeq ?_;have hok:BP ⟨r,k⟩ = true:=Dw.2 ⟨by simp only[];omega,by simp only[];omega,by simp only[];omega,by simp only[];omega⟩;have hsw:AZ ⟨r,k⟩ = 16 * r + k:=by simp[AZ,hok]
   refine jif (λhw=>?_) (λhw=>?_)
   ·have hw:(16 * r + k:Int) = w:=by rw[← hsw];exact eq_of_beq hw
    refine jla (l:=[I r,I k]) σ rfl ?_;refine js (cs':=[I r,I k]) rfl rfl σ rfl ?_;refine jla (l:=[I r,I k]) σ rfl ?_;refine B9 (A:=[]) (RM.le.refl _) ?_;have e1:w / 16 = r:=ω
    have e2:w % 16 = k:=ω
    have:AJ w = (⟨r,k⟩,true):=by
     rw[AJ,if_pos ω,e1,e2]
    rw[this]
   ·have hw:(16 * r + k:Int)≠w:=by rw[← hsw];intro hh;rw[hh] at hw;simp at hw
    refine jad ?_;refine Bn ?_;refine hK' (5 - (k + 1)) _ _ _ ω ⟨rfl,rfl,k + 1,ω,σ,rfl,λn' h=>?_⟩;by_cases h' : n' = k
    ·subst h';exact hw
    ·exact hall' n' ω
  ·have hd:=z_g hd;refine Bv λe he=>?_
   refine z_V ?_;refine Bv λe he=>?_
   refine z_V ?_;refine Bv λe he=>?_
   refine z_V ?_;refine jad ?_;refine hK (5 - (r + 1)) _ _ _ ω ⟨rfl,rfl,r + 1,ω,σ,rfl,λr' n' h h2=>?_⟩;by_cases h' : r' = r
   ·subst h';exact hall' n' ω
   ·exact Bx r' n' ω h2
 ·have hc:=z_g hc;refine Bv λe he=>?_
  refine z_V ?_;refine Bv λe he=>?_
  refine z_V ?_;refine jbd (cs:=[I 0,I 0]) rfl rfl ?_;refine js (cs':=[I 0,I 0]) rfl rfl σ rfl ?_;refine jla (l:=[I 0,I 0]) σ rfl ?_;refine B9 (A:=[]) (RM.le.refl _) ?_;have:AJ w = (Ss,false):=by
   rw[AJ,if_neg];intro hh;exact Bx (w / 16).toNat (w % 16).toNat ω ω ω
  rw[this];rfl
theorem Cz {p:Nat} {S S' : Sim} {g:Img} {a v:Int} {R:RM} (hok:Ok R S g) (hS:S.read a = some (v,S')):Fn P Jz [Pt p,I a] R (Ab p S g) (D0 p S' (· = I v)):=by
 refine PI λF=>?_
 refine z_2 ?_;simp only[Sim.read] at hS;split at hS
 ·rename_i v' hv;simp only[Yu,Prod.mk.injEq] at hS;obtain⟨rfl,rfl⟩:=hS;obtain⟨h0,h1,h2,h3⟩:=Av hv;refine jss { S with used:=true } g rfl rfl δ τ τ ?_;refine jl rfl ?_;refine jia h0 h1 ?_;refine jl (by rw[Z6,Zo];exact Fj h2) ?_;exact Ay (RM.le.refl R) (by rw[← h3]) rfl { hok with }
 ·cases hS
theorem Db {p:Nat} {S S' : Sim} {g:Img} {a v:Int} {R:RM} (hok:Ok R S g) (hS:S.write a v = some S'):Fn P J6 [Pt p,I a,I v] R (Ab p S g) (D0 p S' λ_=>True):=by
 refine OW λF=>?_
 refine z_3 ?_;simp only[Sim.write] at hS;split at hS
 ·rename_i hv;simp only[Yu] at hS;subst hS;refine jss { S with used:=true } g rfl rfl δ τ τ ?_;refine jl rfl ?_;refine jia hv.1 hv.2 ?_;rw[Z6,Zo];refine jsw (p:=p) { S with used:=true,AA:=AT S.AA a v } (by show a.toNat < S.AA.length;omega) τ ?_;exact Ay (RM.le.refl R) trivial rfl { hok with wl:=by simpa [AT] using hok.wl,wk:=by simpa [AT] using hok.wk }
 ·cases hS
theorem L4 {p:Nat} {S:Sim} {g:Img} {a:Int} {b:Bool} {R:RM} (hok:Ok R S g) (hS:S.from_ a = some b):Fn P HK [Pt p,I a] R (Ab p S g) (D0 p S (· = .bool b)):=by
 refine QX λF=>?_
 refine z_2 ?_;simp only[Sim.from_] at hS;refine CQ (CQ (jne (Bt (λh=>?_) (λh=>?_))))
 ·have ha:a≠0:=by simpa using h
  rw[if_neg ha] at hS;split at hS
  ·rename_i x hx;obtain⟨h0,h1,h2,h3⟩:=Av hx;have hl:=hok.tl;cases hS;refine jl rfl (Bv λe he=>?_);simp only[List.map,zj,z_t,h] at he;simp only[he];refine jtt (jp (CT a ω) ?_);refine jia h0 h1 ?_;refine jl (o:=0 + (AN a).toNat * 5 + 0) (v:=I x.kind) ?_ (jeq (EA (Af (jl rfl jev) (Bv λe he=>?_))))
   ·have:=DQ (f:=eRg) (w:=5) (λ_=>rfl) (sp:=g.tsp) h2;rw[h3] at this;have e2:=congrArg (λl=>l[0]?) this;simp only[Zl,ZY] at e2;simpa using e2
   ·refine z_V ?_;exact Ay (RM.le.refl R) rfl rfl hok
  ·cases hS
 ·have ha:a = 0:=by simpa using h
  rw[if_pos ha] at hS;cases hS;refine Bv λe he=>?_
  simp only[List.map,zj,z_t,h] at he;simp only[he];refine jft (EI (Af jev (Bv λe he=>?_)));refine z_V ?_;exact Ay (RM.le.refl R) rfl rfl hok
theorem Fz.reads {R:RM} {D:Chs} {v:Value} {w n:Nat} {cells:List Value} (H:Fz R v w n cells):∃a cap,v = .slice a n cap∧BY R D a (n * w) cells:=by
 rcases H with ⟨h1,h2,h3⟩ | ⟨b,o,cap,t,cs,h1,h2,h3,h4,h5⟩
 ·subst h1 h2 h3;exact⟨none,0,rfl,by rw[aa];exact BY.none_⟩
 ·exact⟨_,cap,h1,by rw[← h4];exact BY.frozen h2 h3⟩
def UR (l:List Int) (v:Value) (A:Chs):Prop:=∃b c sp,l.length≤c∧sp.length = c - l.length∧v = S0 b l.length c∧A = [(b,C AX (l.map I ++ sp))]
theorem CN {v:Value} {l:List Int} {R:RM} (h:BG R v l) (hl:l.length < 1000000):Fn P KJ [v] R [] (λv' _ A=>UR l v' A):=by
 refine PM λF=>?_
 refine z_1 ?_;obtain⟨a,cap,rfl,hr⟩:=Fz.reads (D:=[]) h;refine jbs (cs:=[]) rfl rfl λb=>?_
 refine T6 (new:=l.map I) ?_ δ ω (λ_=>rfl) (λh0=>?_) (λb' c hc=>?_)
 ·intro h' hs';exact hr h' (St.drop (A:=(b,C 3 []) :: ([] ++ F)) (by simpa using hs'))
 ·have hl0:l = []:=ZL.1 h0;refine B9 (RM.le.refl R) (A:=[(b,C AX [])]) ⟨b,0,[],by simp[hl0],σ,by simp[hl0],by simp[hl0]⟩
 ·refine B9 (RM.le.refl R) (A:=[(b',C AX (l.map I ++ (List.replicate (c - l.length) (cl z3)).flatten))]) ⟨b',c,_,hc,?_,rfl,rfl⟩;rw[Bw (w:=1) (by intro x hx;rw[(ZT.1 hx).2];rfl)];simp
theorem Aw {R:RM} {D E G:Chs} {m:M} (A:Chs) [s:Sp D A E] [x:Sf E G] (H:J R (A ++ G) m):J R D m:=by
 intro h hs;obtain⟨X,hX⟩:=x.p;have h1:=hs.perm s.p;subst hX;have:St h R (X ++ (A ++ G)):=h1.perm (by
  rw[← Yr,← Yr]
  exact aN G Zv)
 exact H h this.drop
theorem LG {α:Type} (f:α→List Value) (l:List α) (x:α):Ac f (l ++ [x]) = Ac f l ++ f x:=by simp[Ac]
theorem BI {R:RM} {D D' : Chs} {m:M} (hp:D.Perm D') (H:J R D' m):J R D m:=λh hs=>H h (hs.perm hp)
theorem Va {R:RM} {D G:Chs} {p b c:Nat} {S:Sim} {g:Img} {evs:List Ev} {sp:List Value} {m:M} [w:Fd D p S g G]
  (H:J R (Ab p { S with ev:=evs } { g with ev:=some (b,c),esp:=sp } ++ G) m) :
  J R ((b,C E8 (Ac eEv evs ++ sp)) :: D) (ST 1 (.pointer (some ⟨p,33,none⟩)) (S0 b evs.length c) m):=by
 refine BI ((w.ex.cons _).trans ZH.symm) ?_;refine js (D:=Ab p S g ++ (b,C E8 (Ac eEv evs ++ sp)) :: G) (t:=Bg) (cs:=C0 S g) (cs':=C0 { S with ev:=evs } { g with ev:=some (b,c),esp:=sp }) (D':=(p,C Bg (C0 { S with ev:=evs } { g with ev:=some (b,c),esp:=sp })) :: ((g.wb,C AX (S.AA.map I ++ g.wsp)) :: (g.tb,C AI (Ac eRg S.A0 ++ g.tsp)) :: (g.mb,C B7 (S.AK.map Value.bool ++ g.msp)) :: (g.hb,C AY (E3 S.th g.rv ++ g.hsp)) :: evD S g ++ (b,C E8 (Ac eEv evs ++ sp)) :: G)) rfl rfl (by simp[C0]) rfl ?_ (u:=?_);rotate_left
 ·refine Aw [(p,C Bg (C0 { S with ev:=evs } { g with ev:=some (b,c),esp:=sp })),(g.wb,C AX (S.AA.map I ++ g.wsp)),(g.tb,C AI (Ac eRg S.A0 ++ g.tsp)),(g.mb,C B7 (S.AK.map Value.bool ++ g.msp)),(g.hb,C AY (E3 S.th g.rv ++ g.hsp)),(b,C E8 (Ac eEv evs ++ sp))] (G:=G) ?_;exact H
 ·unfold Ab;exact inferInstance
theorem Vl {R:RM} {D G:Chs} {p:Nat} {S:Sim} {g:Img} {e:Ev} {cx:Nat} {xa:Option Addr} {zs:List Value} {m:M} (hz:zs.length = 4) [w:Fd D p S g G] (hok:Ok R S g) (hl:S.ev.length < 1000000) (hx:BY R D xa (1 * 4) (eEv e))
  (H:∀g',Ok R { S with ev:=S.ev ++ [e] } g'→J R (Ab p { S with ev:=S.ev ++ [e] } g' ++ G) m) :
  J R D (AP E8 4 32 zs (evV S g) (.slice xa 1 cx) λx=>ST 1 (.pointer (some ⟨p,33,none⟩)) x m):=by
 have spl:∀c,(List.replicate (c - (S.ev.length + 1)) zs).flatten.length = (c - (S.ev.length + 1)) * 4:=λc=>by
  rw[Bw (w:=4) (by intro x hx;rw[(ZT.1 hx).2,hz])];simp
 have okn:∀b c sp,S.ev.length + 1≤c→sp.length = (c - (S.ev.length + 1)) * 4→Ok R { S with ev:=S.ev ++ [e] } { g with ev:=some (b,c),esp:=sp }:=λb c sp h1 h2=>
  { hok with ev0:=(by intro h;cases h),ev1:=(by intro b' c' h;cases h;simp;exact⟨h1,h2⟩) }
 have nxt:∀b c,S.ev.length + 1≤c→J R ((b,C E8 (Ac eEv S.ev ++ eEv e ++ (List.replicate (c - (S.ev.length + 1)) zs).flatten)) :: D) (ST 1 (.pointer (some ⟨p,33,none⟩)) (S0 b (S.ev.length + 1) c) m):=λb c hc=>by
  have:=Va (D:=D) (p:=p) (b:=b) (c:=c) (evs:=S.ev ++ [e]) (sp:=(List.replicate (c - (S.ev.length + 1)) zs).flatten) (H _ (okn b c _ hc (spl c)));rw[LG] at this;simpa using this
 cases hg:g.ev with
 | none=>
  have h0:=hok.ev0 hg;simp only[evV,hg];refine jap hx (sl:=0) (old:=[]) (by rw[aa];exact BY.none_) δ ω (λh=>ω) (λb c hc=>?_);have:=nxt b c (by rw[h0];simpa using hc);rw[h0] at this;simpa [Ac] using this
 | some bc=>
  obtain⟨b,c⟩:=bc;obtain⟨hn,he⟩:=hok.ev1 b c hg;have e1:Ab p S g = (p,C Bg (C0 S g)) :: (g.wb,C AX (S.AA.map I ++ g.wsp)) :: (g.tb,C AI (Ac eRg S.A0 ++ g.tsp)) :: (g.mb,C B7 (S.AK.map Value.bool ++ g.msp)) :: (g.hb,C AY (E3 S.th g.rv ++ g.hsp)) :: (b,C E8 (Ac eEv S.ev ++ g.esp)) :: []:=by
   simp[Ab,evD,hg]
  have hsz:=DL (f:=eEv) (w:=4) (λ_=>rfl) S.ev;have hD:D.Perm ((b,C E8 (Ac eEv S.ev ++ g.esp)) :: ((p,C Bg (C0 S g)) :: (g.wb,C AX (S.AA.map I ++ g.wsp)) :: (g.tb,C AI (Ac eRg S.A0 ++ g.tsp)) :: (g.mb,C B7 (S.AK.map Value.bool ++ g.msp)) :: (g.hb,C AY (E3 S.th g.rv ++ g.hsp)) :: G)):=by
   refine w.ex.trans ?_;rw[e1];simp only[zc,zl];exact (inferInstance:Tk _ b _ _).p
  simp only[evV,hg];refine Tx (E:=_) (tk:=⟨hD⟩) hx ?_ hn rfl rfl δ ω (λhc=>?_) (λb' c' hc=>?_)
  ·rw[Yk,hsz,he,← Nat.add_mul];congr 1;omega
  ·have el:lay (Ac eEv S.ev ++ g.esp) (S.ev.length * 4) (eEv e) = Ac eEv (S.ev ++ [e]) ++ g.esp.drop 4:=by
    rw[Gr ω,hsz,Nat.sub_self,LG,Yr];simp[lay]
   rw[el];have H':=H { g with esp:=g.esp.drop 4 } { hok with ev0:=(by intro h;exact absurd (hg.symm.trans h) σ),ev1:=(by
    intro b' c' h
    have h2:some (b,c) = some (b',c'):=hg.symm.trans h
    cases h2
    simp only[Yk,Z7,ZS]
    omega) }
   have e2:C0 { S with ev:=S.ev ++ [e] } { g with esp:=g.esp.drop 4 } = (C0 S g).set 33 (S0 b (S.ev.length + 1) c):=by
    simp[C0,evV,hg]
   have e3:Ab p { S with ev:=S.ev ++ [e] } { g with esp:=g.esp.drop 4 } = (p,C Bg ((C0 S g).set 33 (S0 b (S.ev.length + 1) c))) :: (g.wb,C AX (S.AA.map I ++ g.wsp)) :: (g.tb,C AI (Ac eRg S.A0 ++ g.tsp)) :: (g.mb,C B7 (S.AK.map Value.bool ++ g.msp)) :: (g.hb,C AY (E3 S.th g.rv ++ g.hsp)) :: (b,C E8 (Ac eEv (S.ev ++ [e]) ++ g.esp.drop 4)) :: []:=by
    rw[← e2];simp[Ab,evD,hg]
   rw[e3] at H';refine js (t:=Bg) (cs:=C0 S g) (cs':=(C0 S g).set 33 (S0 b (S.ev.length + 1) c)) rfl rfl (by simp[C0]) (Gn (by simp[C0])) ?_;exact Aw _ H'
  ·have:=nxt b' c' hc;rw[ZZ ω,Ys ω];exact this
theorem Fz.flat {R:RM} {v:Value} {w n:Nat} {cells:List Value} (H:Fz R v w n cells):flat v = true:=by
 rcases H with ⟨h1,_,_⟩ | ⟨b,o,cap,t,cs,h1,_⟩<;>subst h1<;>rfl
theorem B8 {a b c:Int} (h:Cf a b = some c):c = a + b∧inR (a + b):=by
 unfold Cf at h;split at h
 ·cases h;exact⟨rfl,by assumption⟩
 ·cases h
theorem G5 {S:Sim} (h:S.sz = true):S.ev.length < 1000000∧S.old.length < 1000000∧S.col.AM.length < 1000000∧S.AG.length < 1000000∧∀t∈S.th,t.AC.length < 1000000:=by
 simp only[Sim.sz,z_b,z_d,ZC] at h;exact⟨h.1.1.1.1,h.1.1.1.2,h.1.1.2,h.1.2,h.2⟩
theorem DM {p:Nat} {S S' : Sim} {g:Img} {i ans code:Int} {R:RM} (hok:Ok R S g) (hS:S.event i ans code = some S') :
  Fn P J3 [Pt p,I i,I ans,I code] R (Ab p S g) (D0 p S' λ_=>True):=by
 refine O5 λF=>?_
 refine z_4 ?_;simp only[Sim.event] at hS;split at hS
 ·cases hS
 rename_i hsz;simp only[Bool.not_eq_true,ZM] at hsz;have hsz:=G5 hsz;split at hS
 ·rename_i t ht;obtain⟨h0,h1,h2,h3⟩:=Av ht;split at hS
  ·rename_i n hn;obtain⟨rfl,hin⟩:=B8 hn;cases hS;have hr:=hok.rvl;have h2' : i.toNat < g.rv.length:=ω
   have hv:=hok.rv i.toNat h2 h2';rw[h3] at hv;obtain⟨xa,cap,hve,-⟩:=Fz.reads (D:=[]) hv;rw[hve] at hv;refine jl rfl ?_;refine jia h0 h1 ?_;refine V3 (p:=p) h2 hr ?_;rw[h3,hve];refine ja λb=>?_
   refine js (cs':=Ak t (.slice xa t.AC.length cap)) rfl rfl σ rfl ?_;refine jl rfl ?_;refine jl rfl ?_;refine jbd (cs:=eEv ⟨i,t.next,ans,code⟩) rfl rfl ?_;refine jbs (cs:=eEv ⟨i,t.next,ans,code⟩) rfl rfl λb1=>?_
   refine Af (jl rfl jev) ?_;refine Vl (p:=p) (e:=⟨i,t.next,ans,code⟩) rfl hok hsz.1 (BY.held (t:=E8) (cs:=eEv ⟨i,t.next,ans,code⟩) (o:=0) (n:=1 * 4) (z_n 4)) λg' hok'=>?_
   have hr':=hok'.rvl;refine jl rfl ?_;refine jl rfl ?_;refine jl rfl ?_;refine Cr hin ?_;refine jbd (cs:=Ak (thr0 t.AC (t.next + 1) 0) (.slice xa t.AC.length cap)) rfl rfl ?_;refine jia h0 h1 ?_;refine jst (p:=p) { S with ev:=S.ev ++ [⟨i,t.next,ans,code⟩],th:=AT S.th i (thr0 t.AC (t.next + 1) 0) } { g' with rv:=g'.rv.set i.toNat (.slice xa t.AC.length cap) } (by exact h2) (by exact hr') rfl τ τ ?_;exact Ay (RM.le.refl R) trivial rfl (hok'.setT hv)
  ·cases hS
 ·cases hS
theorem TV {p:Nat} {S S' : Sim} {g:Img} {i:Int} {R:RM} (hok:Ok R S g) (hS:S.back i = some S') :
  Fn P LB [Pt p,I i] R (Ab p S g) (D0 p S' λ_=>True):=by
 refine Ph λF=>?_
 refine z_2 ?_;simp only[Sim.back] at hS;split at hS
 ·rename_i t ht;obtain⟨h0,h1,h2,h3⟩:=Av ht;cases hS;have hr:=hok.rvl;have h2' : i.toNat < g.rv.length:=ω
  have hv:=hok.rv i.toNat h2 h2';rw[h3] at hv;obtain⟨xa,cap,hve,-⟩:=Fz.reads (D:=[]) hv;rw[hve] at hv;refine jl rfl ?_;refine jia h0 h1 ?_;refine V3 (p:=p) h2 hr ?_;rw[h3,hve];refine ja λb=>?_
  refine js (cs':=Ak t (.slice xa t.AC.length cap)) rfl rfl σ rfl ?_;refine jl rfl ?_;refine jl rfl ?_;refine jl rfl ?_;refine jbd (cs:=Ak (thr0 t.AC t.next 1) (.slice xa t.AC.length cap)) rfl rfl ?_;refine jia h0 h1 ?_;refine jst (p:=p) { S with th:=AT S.th i (thr0 t.AC t.next 1) } { g with rv:=g.rv.set i.toNat (.slice xa t.AC.length cap) } (by exact h2) (by exact hr) rfl τ τ ?_;refine jss { S with th:=AT S.th i (thr0 t.AC t.next 1),full:=true } { g with rv:=g.rv.set i.toNat (.slice xa t.AC.length cap) } rfl rfl δ τ τ ?_;refine jss { S with th:=AT S.th i (thr0 t.AC t.next 1),full:=true,stop:=true } { g with rv:=g.rv.set i.toNat (.slice xa t.AC.length cap) } rfl rfl δ τ τ ?_;exact Ay (RM.le.refl R) trivial rfl { hok.setT (i:=i.toNat) (t:=thr0 t.AC t.next 1) hv with }
 ·cases hS
section rows
variable {R:RM} {D G:Chs} {p:Nat} {S:Sim} {g:Img} {m:M} {k:Value→M}
theorem QH {i:Nat} [w:Fd D p S g G] (hi:i < S.A0.length) (H:J R D (k (.agg (eRg (S.A0[i])).toArray))):J R D (LA 5 (.pointer (some ⟨g.tb,0 + i * 5,none⟩)) k):=by
 intro h hs;rw[Z6];refine jla (R:=R) (D:=Ab p S g ++ G) (t:=AI) (cs:=Ac eRg S.A0 ++ g.tsp) (k:=λv h=>k v h) ?_ (DQ (f:=eRg) (w:=5) (λ_=>rfl) hi) (λh' hs'=>H h' (hs'.perm w.ex.symm)) h (hs.perm w.ex);rw[Yk,DL (w:=5) (λ_=>rfl)];omega
theorem SZ {i:Nat} {x:Rg} (S' : Sim) [w:Fd D p S g G] (hi:i < S.A0.length) (hS:S' = { S with A0:=S.A0.set i x }) (H:J R (Ab p S' g ++ G) m):J R D (ST 5 (.pointer (some ⟨g.tb,0 + i * 5,none⟩)) (.agg (eRg x).toArray) m):=by
 subst hS;intro h hs;rw[Z6];refine js (R:=R) (D:=Ab p S g ++ G) (t:=AI) (cs:=Ac eRg S.A0 ++ g.tsp) (cs':=Ac eRg (S.A0.set i x) ++ g.tsp) (D':=Ab p { S with A0:=S.A0.set i x } g ++ G) rfl rfl ?_ (M6 (f:=eRg) (w:=5) (λ_=>rfl) hi) H h (hs.perm w.ex) (u:=?_)
 ·show i * 5 + 5≤_;rw[Yk,DL (w:=5) (λ_=>rfl)];omega
 ·have e1:C0 { S with A0:=S.A0.set i x } g = C0 S g:=by simp[C0,evV]
  unfold Ab evD;rw[e1];exact inferInstance
end rows
theorem TQ {p:Nat} {S S' : Sim} {g:Img} {a size:Int} {R:RM} (hok:Ok R S g) (hS:S.top a size = some S') :
  Fn P MD [Pt p,I a,I size] R (Ab p S g) (D0 p S' λ_=>True):=by
 refine Sw λF=>?_
 refine z_3 ?_;simp only[Sim.top] at hS;split at hS
 ·rename_i x hx;obtain⟨h0,h1,h2,h3⟩:=Av hx;have hl:=hok.tl;split at hS
  ·rename_i n hn;obtain⟨rfl,hin⟩:=B8 hn;cases hS;refine jp (CT a ω) ?_;refine jl rfl ?_;refine jia h0 h1 ?_;refine QH (p:=p) h2 ?_;rw[h3];refine ja λb=>?_
   refine js (cs':=eRg x) rfl rfl σ rfl ?_;refine Cr hin ?_;refine js (cs':=eRg { x with top:=a + size }) rfl rfl σ rfl ?_;refine jl rfl ?_;refine jla (l:=eRg { x with top:=a + size }) σ rfl ?_;refine jia h0 h1 ?_;refine SZ (p:=p) (x:={ x with top:=a + size }) { S with A0:=AT S.A0 (AN a) { x with top:=a + size } } (by exact h2) τ ?_;exact Ay (RM.le.refl R) trivial rfl { hok with tl:=by simpa [AT] using hok.tl,tk:=by simpa [AT] using hok.tk }
  ·cases hS
 ·cases hS
theorem Vj {R:RM} {D E:Chs} {l:List Int} {v:Int} {b c cx:Nat} {sp:List Value} {xa:Option Addr} {k:Value→M} [tk:Tk D b (C AX (l.map I ++ sp)) E] (hc:l.length≤c) (hsp:sp.length = c - l.length) (hl:l.length < 1000000) (hx:BY R D xa (1 * 1) [I v])
  (H:∀b' c' sp',l.length + 1≤c'→sp'.length = c' - (l.length + 1)→J R ((b',C AX ((l ++ [v]).map I ++ sp')) :: E) (k (.slice (some ⟨b',0,none⟩) (l.length + 1) c'))) :
  J R D (AP AX 1 8 [I 0] (S0 b l.length c) (.slice xa 1 cx) k):=by
 refine Tx (tk:=tk) hx (by simp;omega) hc rfl rfl δ ω (λh=>?_) (λb' c' h=>?_)
 ·have el:lay (l.map I ++ sp) (l.length * 1) [I v] = (l ++ [v]).map I ++ sp.drop 1:=by
   rw[Gr σ];simp[lay]
  rw[el];exact H b c _ h (by simp;omega)
 ·refine BI (tk.p.cons _) (BI (aI _ _ _) (Bn ?_));have:=H b' c' (List.replicate (c' - (l.length + 1)) [I 0]).flatten h (by rw[Bw (w:=1) (by intro x hx;rw[(ZT.1 hx).2];rfl)];simp);rw[ZZ σ,Ys σ];simpa using this
theorem CH {R:RM} {b c:Nat} {l:List Int} {sp:List Value} (h:R b = some (C AX (l.map I ++ sp))) (hc:l.length≤c):BG R (S0 b l.length c) l:=
 .inr ⟨b,0,c,_,_,rfl,h,σ,σ,hc⟩
theorem WJ {p:Nat} {S S' : Sim} {g:Img} {v:Int} {R:RM} (hok:Ok R S g) (hS:S.oldV v = some S') :
  Fn P MR [Pt p,I v] R (Ab p S g) (D0 p S' λ_=>True):=by
 refine Sv λF=>?_
 refine z_2 ?_;simp only[Sim.oldV] at hS;split at hS
 ·cases hS
 rename_i hsz;simp only[Bool.not_eq_true,ZM] at hsz;have hsz:=G5 hsz;refine CQ (jl rfl (jeq (Bt (λh=>?_) (λh=>?_))))
 ·have hph:S.Ad = 1:=by simpa using h
  refine jne (Bv λe he=>?_);simp only[List.map,zj,z_t,h] at he;simp only[he];refine EA (jif (λh2=>?_) (λh2=>?_))
  ·have hv0:v≠0:=by simpa using h2
   rw[if_pos ⟨hph,hv0⟩] at hS;cases hS;refine jl rfl ?_;refine jc (A:=[]) (CN hok.old hsz.2.1) ?_;rintro _ R' _ hR ⟨b,c,sp,hc,hsp,rfl,rfl⟩;have hok':=hok.le hR;refine jbs (cs:=[I v]) rfl rfl λb1=>?_
   refine Vj (v:=v) hc hsp hsz.2.1 (BY.held (t:=AX) (cs:=[I v]) (o:=0) (n:=1 * 1) (z_n 1)) λb' c' sp' hc' hsp'=>?_
   refine BQ (b:=b') λR2 hR2 hb'=>?_
   refine jss { S with old:=S.old ++ [v] } { g with old:=.slice (some ⟨b',0,none⟩) (S.old.length + 1) c' } rfl rfl δ τ τ ?_;have hi:=CH (c:=c') hb' (by simpa using hc');rw[Yk,Z7] at hi;exact Ay (hR.trans hR2) trivial rfl (by exact { hok'.le hR2 with old:=hi })
  ·have hv0:¬ v≠0:=by simpa using h2
   rw[if_neg (λhh=>hv0 hh.2)] at hS;cases hS;exact Ay (RM.le.refl R) trivial rfl hok
 ·have hph:S.Ad≠1:=by simpa using h
  rw[if_neg (λhh=>hph hh.1)] at hS;cases hS;refine Bv λe he=>?_
  simp only[List.map,zj,z_t,h] at he;simp only[he];refine EI (CL ?_);exact Ay (RM.le.refl R) trivial rfl hok
theorem jcS {R:RM} {D G:Chs} {p f:Nat} {S S' : Sim} {g:Img} {args:List Value} {r:Value→Prop} {k:Value→M} [w:Fd D p S g G] (hF:Fn P f args R (Ab p S g) (D0 p S' r))
  (H:∀v R' g',R.le R'→r v→Ok R' S' g'→J R' (Ab p S' g' ++ G) (k v)):J R D (CA P f args k):=by
 refine BI w.ex (jc hF ?_);rintro v R' _ hR ⟨hr,g',rfl,ho⟩;exact H v R' g' hR hr ho
theorem MY {p:Nat} {S S' : Sim} {g:Img} {i a:Int} {R:RM} (hok:Ok R S g) (hS:S.push i a = some S') :
  Fn P LM [Pt p,I i,I a] R (Ab p S g) (D0 p S' λ_=>True):=by
 refine QJ λF=>?_
 refine z_3 ?_;simp only[Sim.push] at hS;split at hS
 ·cases hS
 rename_i hsz;simp only[Bool.not_eq_true,ZM] at hsz;have hsz:=G5 hsz;split at hS
 ·rename_i t ht;obtain⟨h0,h1,h2,h3⟩:=Av ht;have hr:=hok.rvl;have h2' : i.toNat < g.rv.length:=ω
  have hv:=hok.rv i.toNat h2 h2';rw[h3] at hv;have hl:t.AC.length < 1000000:=hsz.2.2.2.2 t (by rw[← h3];exact Yq h2);obtain⟨xa,cap,hve,-⟩:=Fz.reads (D:=[]) hv;rw[hve] at hv;refine jl rfl ?_;refine jia h0 h1 ?_;refine V3 (p:=p) h2 hr ?_;rw[h3,hve];refine ja λb=>?_
  refine js (cs':=Ak t (.slice xa t.AC.length cap)) rfl rfl σ rfl ?_;refine jl rfl ?_;refine jc (A:=[]) (CN hv hl) ?_;rintro _ R' _ hR ⟨b2,c,sp,hc,hsp,rfl,rfl⟩;have hok':=hok.le hR;refine jbs (cs:=[I a]) rfl rfl λb1=>?_
  refine Vj (v:=a) hc hsp hl (BY.held (t:=AX) (cs:=[I a]) (o:=0) (n:=1 * 1) (z_n 1)) λb' c' sp' hc' hsp'=>?_
  refine BQ (b:=b') λR2 hR2 hb'=>?_
  have hi:=CH (c:=c') hb' (by simpa using hc');rw[Yk,Z7] at hi;refine jS (Ak { t with AC:=t.AC ++ [a] } (.slice (some ⟨b',0,none⟩) (t.AC.length + 1) c')) ?_;refine jl rfl ?_;refine jla (l:=Ak { t with AC:=t.AC ++ [a] } (.slice (some ⟨b',0,none⟩) (t.AC.length + 1) c')) (by simp[Ak]) rfl ?_;refine jia h0 h1 ?_;refine jst (p:=p) { S with th:=AT S.th i { t with AC:=t.AC ++ [a] } } { g with rv:=g.rv.set i.toNat (.slice (some ⟨b',0,none⟩) (t.AC.length + 1) c') } (by exact h2) (by exact hr) rfl τ τ ?_;refine jcS (p:=p) (by exact DM ((hok'.le hR2).setT (i:=i.toNat) (t:={ t with AC:=t.AC ++ [a] }) hi) hS) λ_ R3 g3 hR3 _ hok3=>?_
  exact Ay ((hR.trans hR2).trans hR3) trivial rfl hok3
 ·cases hS
theorem GI {R:RM} {D G:Chs} {p:Nat} {S:Sim} {g:Img} {i:Int} {t:Thr} {z:Value} {k:Value→M} [w:Fd D p S g G] (hok:Ok R S g) (ht:idx S.th i = some t) (hz:(cl z).length = 17)
  (H:∀b a cap,BG R (.slice a t.AC.length cap) t.AC→J R ((b,C AY (Ak t (.slice a t.AC.length cap))) :: D) (k (Pt b))) :
  J R D (L1 (.pointer (some ⟨p,17,none⟩)) λx3=>IA 17 x3 (I i) λx4=>LA 17 x4 λx5=>AL AY z λx6=>ST 17 x6 x5 (k x6)):=by
 obtain⟨h0,h1,h2,h3⟩:=Av ht;have hr:=hok.rvl;have h2' : i.toNat < g.rv.length:=ω
 have hv:=hok.rv i.toNat h2 h2';rw[h3] at hv;obtain⟨xa,cap,hve,-⟩:=Fz.reads (D:=[]) hv;rw[hve] at hv;refine BI w.ex ?_;refine jl rfl ?_;refine jia h0 h1 ?_;refine V3 (p:=p) h2 hr ?_;rw[h3,hve];refine ja λb=>?_
 refine js (cs':=Ak t (.slice xa t.AC.length cap)) rfl rfl (by rw[hz];exact z_n 17) ?_ ?_
 ·show lay (cl z) 0 (Ak t _) = _;have:=Qj (a:=cl z) (b:=[]) (l:=Ak t (.slice xa t.AC.length cap)) (by rw[hz];rfl);simpa using this
 ·exact BI (w.ex.symm.cons _) (H b xa cap hv)
theorem Gj {R:RM} {D G:Chs} {p b:Nat} {S:Sim} {g:Img} {i:Int} {t:Thr} {v:Value} {m:M} (S' : Sim) [w:Fd D p S g G] [at_:At D b (C AY (Ak t v))] (hok:Ok R S g) (h0:0≤i) (h1:i < S.th.length) (hv:BG R v t.AC) (hS:S' = { S with th:=AT S.th i t })
  (H:∀g',Ok R S' g'→J R (Ab p S' g' ++ G) m) :
  J R D (L1 (.pointer (some ⟨p,17,none⟩)) λx24=>LA 17 (Pt b) λx25=>IA 17 x24 (I i) λx26=>ST 17 x26 x25 m):=by
 subst hS;obtain⟨xa,cap,hve,-⟩:=Fz.reads (D:=[]) hv;subst hve;have hr:=hok.rvl;have h2:i.toNat < S.th.length:=ω
 intro h hs;have hst:=hs.perm w.ex;have hl:J R D (LA 17 (Pt b) λx25=>IA 17 (.slice (some ⟨g.hb,0,none⟩) S.th.length g.hc) (I i) λx26=>ST 17 x26 x25 m):=by
  refine jla (cs:=Ak t (.slice xa t.AC.length cap)) (t:=AY) (l:=Ak t (.slice xa t.AC.length cap)) (z_n 17) rfl ?_;refine jia h0 h1 ?_;refine jst (p:=p) { S with th:=AT S.th i t } { g with rv:=g.rv.set i.toNat (.slice xa t.AC.length cap) } (by exact h2) (by exact hr) rfl τ τ ?_;exact H _ (hok.setT hv)
 have:J R (Ab p S g ++ G) (L1 (.pointer (some ⟨p,17,none⟩)) λx24=>LA 17 (Pt b) λx25=>IA 17 x24 (I i) λx26=>ST 17 x26 x25 m):=jl rfl (BI w.ex.symm hl);exact this h hst
theorem Np (pc:Int) (h:inR (pc + 1)):Pu LE [I pc] (I (E4 pc)):=by
 intro R;refine Q8 λF=>?_
 refine z_1 ?_;refine jeq (jif (λh1=>?_) (λh1=>?_))
 ·refine B9 (A:=[]) (RM.le.refl R) ?_;rw[E4,if_pos (by simpa using h1)]
 ·refine jeq (jif (λh2=>?_) (λh2=>Cr h ?_))
  ·refine B9 (A:=[]) (RM.le.refl R) ?_;rw[E4,if_neg (by simpa using h1),if_pos (by simpa using h2)]
  ·refine B9 (A:=[]) (RM.le.refl R) ?_;rw[E4,if_neg (by simpa using h1),if_neg (by simpa using h2)]
theorem UC (t:Thr) (a:Option Addr) (n c:Nat) (pc:Int):Pu KV [.agg (Ak t (.slice a n c)).toArray,I pc] (I (Bp t pc)):=by
 intro R;refine Py λF=>?_
 refine z_2 ?_;refine ja λb=>?_
 have e:cl (.agg (Ak t (.slice a n c)).toArray) = Ak t (.slice a n c):=rfl;rw[e];refine jeq (jif (λh1=>?_) (λh1=>?_))
 ·refine jl rfl (B9 (A:=[]) (RM.le.refl R) ?_);rw[Bp,if_pos (by simpa using h1)]
 ·refine jeq (jif (λh2=>?_) (λh2=>?_))
  ·refine jl rfl (B9 (A:=[]) (RM.le.refl R) ?_);rw[Bp,if_neg (by simpa using h1),if_pos (by simpa using h2)]
  ·refine jeq (jif (λh3=>?_) (λh3=>?_))
   ·refine jl rfl (B9 (A:=[]) (RM.le.refl R) ?_);rw[Bp,if_neg (by simpa using h1),if_neg (by simpa using h2),if_pos (by simpa using h3)]
   ·refine jl rfl (B9 (A:=[]) (RM.le.refl R) ?_);rw[Bp,if_neg (by simpa using h1),if_neg (by simpa using h2),if_neg (by simpa using h3)]
end Go.Lf
end
section
namespace Go.Lf
open Go Sm
theorem AD {α β:Type} {x:Option α} {f:α→Option β} {b:β} (h:(x >>= f) = some b):∃a,x = some a∧f a = some b:=by
 cases x with
 | none=>cases h
 | some a=>exact⟨a,rfl,h⟩
theorem WQ {p:Nat} {S S' : Sim} {g:Img} {i v:Int} {R:RM} (hok:Ok R S g) (hS:S.load i v = some S') :
  Fn P Jv [Pt p,I i,I v] R (Ab p S g) (D0 p S' λ_=>True):=by
 refine Po λF=>?_
 refine z_3 ?_;obtain⟨t,ht,hS⟩:=AD hS;obtain⟨h0,h1,h2,h3⟩:=Av ht;refine GI (p:=p) hok ht rfl λb a cap hv=>?_
 have rest:∀e:Env,e 0 = Pt p→e 1 = I i→e 2 = I v→e 6 = Pt b→¬ (t.pc = 12∧v = t.u)→J R ((b,C AY (Ak t (.slice a t.AC.length cap))) :: (Ab p S g ++ F)) (CA P HK [(e 0),(e 2)] λx18=>NT x18 λx19=>IF x19 (CA P 236 [(e 0),(e 1),(e 2)] λx20=>Ey R F (D0 p S' λ_=>True) (.tuple #[])) (FO 7 (e 6) λx21=>ST 1 x21 (e 2)<|FO 8 (e 6) λx22=>ST 1 x22 (e 2)<|FO 3 (e 6) λx23=>ST 1 x23 (I 11)<|NC (e 0) λx24=>FO 17 x24 λx25=>L1 x25 λx26=>LA 17 (e 6) λx27=>IA 17 x26 (e 1) λx28=>ST 17 x28 x27<|Ey R F (D0 p S' λ_=>True) (.tuple #[]))):=by
  intro e e0 e1 e2 e6 hc;simp only[e0,e1,e2,e6];rw[if_neg hc] at hS;obtain⟨c,hf,hS⟩:=AD hS;refine jcS (p:=p) (by exact L4 hok hf) λ_ R1 g1 hR1 hr ok1=>?_
  subst hr;cases c with
  | false=>
   refine DI ?_;refine jcS (p:=p) (by exact MY ok1 hS) λ_ R2 g2 hR2 hr ok2=>?_
   exact Ay (hR1.trans hR2) trivial rfl ok2
  | true=>
   refine CL ?_;cases hS;refine jS (Ak { t with u:=v } (.slice a t.AC.length cap)) ?_;refine jS (Ak { t with u:=v,v:=v } (.slice a t.AC.length cap)) ?_;refine jS (Ak { t with u:=v,v:=v,pc:=11 } (.slice a t.AC.length cap)) ?_;refine Gj (p:=p) (S.setT i { t with u:=v,v:=v,pc:=11 }) (by exact ok1) h0 (by exact h1) (by exact hv.le hR1) τ λg2 ok2=>?_
   exact Ay hR1 trivial rfl ok2
 refine CQ (jl rfl (jeq (Bt (λhp=>jl rfl (jeq (Bv λe he=>?_))) (λhp=>Bv λe he=>?_))))
 ·simp only[List.map,zj,z_t,hp] at he;obtain⟨e0,e1,e2,e6,e17,e21⟩:=he;simp only[e17,e21];refine EA (jif (λhq=>?_) (λhq=>rest e e0 e1 e2 e6 λhh=>?_))
  ·have hc:t.pc = 12∧v = t.u:=⟨by simpa using hp,by simpa using hq⟩;rw[if_pos hc] at hS;simp only[e0,e1,e6];refine jl rfl ?_;refine jcS (p:=p) (by exact MY hok hS) λ_ R2 g2 hR2 hr ok2=>?_
   exact Ay hR2 trivial rfl ok2
  ·simp[hh.2] at hq
 ·simp only[List.map,zj,z_t,hp] at he;obtain⟨e0,e1,e2,e6,e17,e21⟩:=he;simp only[e17,e21];refine EI (CL (rest e e0 e1 e2 e6 λhh=>?_));simp[hh.1] at hp
theorem Ur {p:Nat} {S S' : Sim} {g:Img} {i v:Int} {R:RM} (hok:Ok R S g) (hS:S.swap i v = some S') :
  Fn P KY [Pt p,I i,I v] R (Ab p S g) (D0 p S' λ_=>True):=by
 refine PP λF=>?_
 refine z_3 ?_;obtain⟨t,ht,hS⟩:=AD hS;obtain⟨h0,h1,h2,h3⟩:=Av ht;refine GI (p:=p) hok ht rfl λb a cap hv=>?_
 refine AR (λvs R' D'=>R' = R∧D' = (b,C AY (Ak t (.slice a t.AC.length cap))) :: (Ab p S g ++ F)∧∃c u,vs = [Pt p,I i,I v,Pt b,c,u]∧∀k,zA c u k = k (.bool (t.pc == 16 && v == t.u))) (λK hK=>?_) ?_
 ·refine jl rfl (jeq (Bt (λhp=>jl rfl (jeq (hK _ _ _ ⟨rfl,rfl,_,_,rfl,λk=>?_⟩))) (λhp=>hK _ _ _ ⟨rfl,rfl,_,_,rfl,λk=>?_⟩)))
  ·simp only[hp,zA,zP,PK,cond_true,Z2]
  ·simp only[hp,zA,zP,PK,cond_false,Z3]
 ·rintro e _ _ ⟨rfl,rfl,c,u,he,hpk⟩;simp only[List.map,zj,z_t] at he;obtain⟨e0,e1,e2,e6,e17,e21⟩:=he;simp only[e0,e1,e2,e6,e17,e21];rw[hpk];refine jif (λhq=>?_) (λhc=>?_)
  ·simp only[z_b,beq_iff_eq] at hq;rw[if_pos hq] at hS;refine jcS (p:=p) (by exact DM hok hS) λ_ R2 g2 hR2 hr ok2=>?_
   exact Ay hR2 trivial rfl ok2
  have hc:¬ (t.pc = 16∧v = t.u):=by simpa using hc
  rw[if_neg hc] at hS;obtain⟨d,hf,hS⟩:=AD hS;refine jS (Ak { t with u:=v } (.slice a t.AC.length cap)) ?_;refine jcS (p:=p) (by exact L4 hok hf) λ_ R1 g1 hR1 hr ok1=>?_
  subst hr;refine jif (λhd=>?_) (λhd=>?_)
  ·subst hd;cases hS;refine jS (Ak { t with u:=v,v:=v } (.slice a t.AC.length cap)) ?_;refine jS (Ak { t with u:=v,v:=v,pc:=15 } (.slice a t.AC.length cap)) ?_;refine Gj (p:=p) (S.setT i { t with u:=v,v:=v,pc:=15 }) (by exact ok1) h0 (by exact h1) (by exact hv.le hR1) τ λg2 ok2=>?_
   exact Ay hR1 trivial rfl ok2
  ·subst hd;refine jl rfl (jne (jif (λhg=>?_) (λhg=>?_)))
   ·have hg:v≠t.g:=by simpa using hg
    rw[if_neg δ,if_pos hg] at hS;refine jcS (p:=p) (by exact DM ok1 hS) λ_ R2 g2 hR2 hr ok2=>?_
    exact Ay (hR1.trans hR2) trivial rfl ok2
   ·have hg:¬ v≠t.g:=by simpa using hg
    rw[if_neg δ,if_neg hg] at hS;obtain⟨S2,ho,hS⟩:=AD hS;cases hS;refine jcS (p:=p) (by exact WJ ok1 ho) λ_ R2 g2 hR2 hr ok2=>?_
    refine jS (Ak { t with u:=v,pc:=14 } (.slice a t.AC.length cap)) ?_;have hth:S2.th = S.th:=by
     simp only[Sim.oldV] at ho;split at ho
     ·cases ho
     ·cases ho;split<;>rfl
    refine Gj (p:=p) (S2.setT i { t with u:=v,pc:=14 }) (by exact ok2) h0 (by rw[hth];exact h1) (by exact hv.le (hR1.trans hR2)) τ λg3 ok3=>?_
    exact Ay (hR1.trans hR2) trivial rfl ok3
theorem Nc (t:Thr) (xa:Option Addr) (n c:Nat) (pc a:Int) (h:inR (pc + 1)):Pu L9 [.agg (Ak t (.slice xa n c)).toArray,I pc,I a] (.agg (Ak (Bj t pc a) (.slice xa n c)).toArray):=by
 intro R;refine QB λF=>?_
 refine z_3 ?_;refine ja λb=>ja λb2=>?_
 have e:cl (.agg (Ak t (.slice xa n c)).toArray) = Ak t (.slice xa n c):=rfl;rw[e];refine AR (λvs R' D'=>R' = R∧D' = (b2,C AY (cl X9)) :: (b,C AY (Ak { Bj t pc a with pc:=t.pc } (.slice xa n c))) :: ([] ++ F)∧vs = [I pc,Pt b,Pt b2]) (λK hK=>?_) ?_
 ·refine CQ ?_;have fin:∀t1,t1 = { Bj t pc a with pc:=t.pc }→J R ((b2,C AY (cl X9)) :: (b,C AY (Ak t1 (.slice xa n c))) :: ([] ++ F)) (λh=>∀e:Env,List.map e [1,3,6] = [I pc,Pt b,Pt b2]→K [(e 1),(e 3),(e 6)] h):=by
   rintro t1 rfl;refine Bv λe he=>?_
   refine z_V ?_;exact hK _ _ _ ⟨rfl,rfl,rfl⟩
  refine jeq (jif (λh1=>?_) (λh1=>?_))
  ·refine jS (Ak { t with h:=a } (.slice xa n c)) (fin _ ?_);rw[Bj,if_pos (by simpa using h1)]
  ·refine jeq (jif (λh2=>?_) (λh2=>?_))
   ·refine jS (Ak { t with g:=a } (.slice xa n c)) (fin _ ?_);rw[Bj,if_neg (by simpa using h1),if_pos (by simpa using h2)]
   ·refine jeq (jif (λh3=>?_) (λh3=>?_))
    ·refine jS (Ak { t with k:=a } (.slice xa n c)) (fin _ ?_);rw[Bj,if_neg (by simpa using h1),if_neg (by simpa using h2),if_pos (by simpa using h3)]
    ·refine jS (Ak { t with v:=a } (.slice xa n c)) (fin _ ?_);rw[Bj,if_neg (by simpa using h1),if_neg (by simpa using h2),if_neg (by simpa using h3)]
 ·rintro e _ _ ⟨rfl,rfl,he⟩;refine z_V ?_;refine jp (Np pc h) ?_;have hp:(Bj t pc a).pc = E4 pc:=rfl;refine jS (Ak (Bj t pc a) (.slice xa n c)) ?_;refine jla (cs:=Ak (Bj t pc a) (.slice xa n c)) (t:=AY) (l:=Ak (Bj t pc a) (.slice xa n c)) (z_n 17) rfl ?_;refine jS (Ak (Bj t pc a) (.slice xa n c)) ?_;refine jla (cs:=Ak (Bj t pc a) (.slice xa n c)) (t:=AY) (l:=Ak (Bj t pc a) (.slice xa n c)) (z_n 17) rfl ?_;exact B9 (A:=[]) (RM.le.refl _) rfl
theorem Rl {p:Nat} {S S' : Sim} {g:Img} {i:Int} {R:RM} (hok:Ok R S g) (hS:S.resolve i = some S') :
  Fn P Gx [Pt p,I i] R (Ab p S g) (D0 p S' λ_=>True):=by
 refine Lk λF=>?_
 refine z_2 ?_;obtain⟨t,ht,hS⟩:=AD hS;obtain⟨h0,h1,h2,h3⟩:=Av ht;split at hS
 ·cases hS
 rename_i hpc;have hpc:0≤t.pc∧t.pc≤100:=Classical.not_not.1 hpc;have hin:inR (t.pc + 1):=⟨ω,ω⟩;obtain⟨c,hf,hS⟩:=AD hS;refine GI (p:=p) hok ht rfl λb a cap hv=>?_
 refine jl rfl ?_;refine jla (cs:=Ak t (.slice a t.AC.length cap)) (t:=AY) (l:=Ak t (.slice a t.AC.length cap)) (z_n 17) rfl ?_;refine jp (UC t a t.AC.length cap t.pc) ?_;refine jcS (p:=p) (by exact L4 hok hf) λ_ R1 g1 hR1 hr ok1=>?_
 subst hr;refine jif (λhc=>?_) (λhc=>?_)
 ·have hc:c = false:=by simpa using hc
  subst hc;cases hS;refine jp (Np t.pc hin) ?_;refine jS (Ak { t with pc:=E4 t.pc } (.slice a t.AC.length cap)) ?_;refine Gj (p:=p) (S.setT i { t with pc:=E4 t.pc }) (by exact ok1) h0 (by exact h1) (by exact hv.le hR1) τ λg2 ok2=>?_
  exact Ay hR1 trivial rfl ok2
 ·have hc:c = true:=by simpa using hc
  subst hc;obtain⟨⟨f,S1⟩,hrd,hS⟩:=AD hS;dsimp only at hS;have hS1:S1.th = S.th∧S1.Ad = S.Ad:=by
   simp only[Sim.read] at hrd;split at hrd
   ·cases hrd;exact⟨rfl,rfl⟩
   ·cases hrd
  refine jcS (p:=p) (by exact Cz ok1 hrd) λ_ R2 g2 hR2 hr ok2=>?_
  subst hr;refine AR (λvs R' D'=>R' = R2∧∃t',t'.AC = t.AC∧S' = S1.setT i t'∧D' = Ab p S1 g2 ++ (b,C AY (Ak t' (.slice a t.AC.length cap))) :: F∧vs = [Pt p,I i,Pt b]) (λK hK=>?_) ?_
  ·refine AR (λvs R' D'=>R' = R2∧D' = Ab p S1 g2 ++ (b,C AY (Ak t (.slice a t.AC.length cap))) :: F∧∃c u,vs = [Pt p,I i,Pt b,I t.pc,I (Bp t t.pc),I f,c,u]∧∀k,zA c u k = k (.bool (f == Bp t t.pc && S.Ad == 2))) (λK2 hK2=>?_) ?_
   ·refine jeq (Bt (λhp=>jl rfl (jeq (hK2 _ _ _ ⟨rfl,rfl,_,_,rfl,λk=>?_⟩))) (λhp=>hK2 _ _ _ ⟨rfl,rfl,_,_,rfl,λk=>?_⟩))
    ·simp only[hp,zA,zP,PK,cond_true,Z2,hS1.2]
    ·simp only[hp,zA,zP,PK,cond_false,Z3]
   ·rintro e _ _ ⟨rfl,rfl,c,u,he,hpk⟩;simp only[List.map,zj,z_t] at he;obtain⟨e0,e1,e4,e5,e6,e7,e40,e46⟩:=he;simp only[e0,e1,e4,e5,e6,e7,e40,e46];rw[hpk];refine jif (λhq=>?_) (λhq=>?_)
    ·simp only[z_b,beq_iff_eq] at hq;rw[if_pos ⟨hq.1,by rw[hS1.2];exact hq.2⟩] at hS;cases hS;refine jS (Ak { t with src:=Bp t t.pc } (.slice a t.AC.length cap)) ?_;refine jS (Ak { t with src:=Bp t t.pc,ret:=t.pc } (.slice a t.AC.length cap)) ?_;refine jS (Ak { t with src:=Bp t t.pc,ret:=t.pc,pc:=20 } (.slice a t.AC.length cap)) ?_;exact hK _ _ _ ⟨rfl,{ t with src:=Bp t t.pc,ret:=t.pc,pc:=20 },rfl,rfl,rfl,rfl⟩
    ·have hq:¬ (f = Bp t t.pc∧S1.Ad = 2):=by rw[hS1.2];simpa using hq
     rw[if_neg hq] at hS;cases hS;refine jla (cs:=Ak t (.slice a t.AC.length cap)) (t:=AY) (l:=Ak t (.slice a t.AC.length cap)) (z_n 17) rfl ?_;refine jp (Nc t a t.AC.length cap t.pc f hin) ?_;refine jS (Ak (Bj t t.pc f) (.slice a t.AC.length cap)) ?_;refine hK _ _ _ ⟨rfl,Bj t t.pc f,?_,rfl,rfl,rfl⟩;simp only[Bj];split<;>(try split)<;>(try split)<;>rfl
  ·rintro e _ _ ⟨rfl,t',hr,rfl,rfl,he⟩;refine z_V ?_;have hv' : BG _ _ _:=hv.le (hR1.trans hR2);refine Gj (p:=p) (S1.setT i t') (by exact ok2) h0 (by rw[hS1.1];exact h1) (by rw[hr];exact hv') τ λg3 ok3=>?_
   exact Ay (hR1.trans hR2) trivial rfl ok3
theorem Q9 (a b:Bool) (x y:Operand) (w:World):(do eqGuard .neq 4 x y (.bool a) (.bool b);binOp .neq 4 (.bool a) (.bool b):Sem Value).run P w = .ok (.bool (a != b)) w:=by
 cases a<;>cases b<;>kernel_rfl
theorem jxb {a b:Bool} {x y:Operand} {R:RM} {D:Chs} {k:Value→M} (H:J R D (k (.bool (a != b)))):J R D (X P (do eqGuard .neq B7 x y (.bool a) (.bool b);binOp .neq B7 (.bool a) (.bool b)) k):=by
 intro h hs w hw;have:=Q9 a b x y w;rw[this];subst hw;exact⟨BK.refl _,H _ hs⟩
theorem Wi:(P.fieldsOf AI).toList.map (λf=>(f.name != "_",f.type,f.offset)) = [(true,AX,0),(true,AX,1),(true,AX,2),(true,AX,3),(true,AX,4)]:=by kernel_rfl
theorem U5 (f:Nat) (o:Nat) (xs:List Value) (v:Value) (w:World) (h:xs[o]? = some v):(part AX xs.toArray o).run P w = .ok v w:=
 run_part_plain w (by kernel_rfl) (by simpa using h)
theorem Nw (d:Nat) (w:World) (xs ys:List Value):∀(fs:List Field) (os:List Nat) (ps bs:List Int),fs.map (λf=>(f.name != "_",f.type,f.offset)) = os.map (λo=>(true,AX,o))→os.map (xs[·]?) = ps.map (λa=>some (I a))→os.map (ys[·]?) = bs.map (λb=>some (I b))→
  (Op.eqFields (d + 1) xs.toArray ys.toArray fs).run P w = .ok (ps == bs) w:=by
 intro fs;induction fs with
 | nil=>intro os ps bs h1 h2 h3;cases os<;>simp at h1;cases ps<;>simp at h2;cases bs<;>simp at h3;simp[Op.eqFields]
 | cons f fs ih=>
  intro os ps bs h1 h2 h3;cases os with
  | nil=>simp at h1
  | cons o os=>
   cases ps with
   | nil=>simp at h2
   | cons a ps=>
    cases bs with
    | nil=>simp at h3
    | cons b bs=>
     simp only[ZX,zj,Prod.mk.injEq] at h1 h2 h3;obtain⟨⟨n1,n2,n3⟩,h1⟩:=h1;have n1' : f.name≠ "_":=by simpa using n1
     simp only[Op.eqFields,if_pos n1',ZA];rw[n2,n3,U5 0 o xs (I a) w h2.1];simp only[Yw];rw[U5 0 o ys (I b) w h3.1];simp only[Yw];rw[run_equalIn_int w d AX .i64 .i64 a b (by kernel_rfl)];simp only[Yw];cases hb:(a == b)
     ·simp[hb]
     ·simp[hb,ih os ps bs h1 h2.2 h3.2]
theorem XI {a b:Rg} {x y:Operand} {R:RM} {D:Chs} {k:Value→M} (H:J R D (k (.bool (!(a == b))))):J R D (X P (do eqGuard .neq AI x y (.agg (eRg a).toArray) (.agg (eRg b).toArray);binOp .neq AI (.agg (eRg a).toArray) (.agg (eRg b).toArray)) k):=by
 intro h hs w hw;have hfs:=Wi;rw[ZA,run_eqGuard_agg _ _ _ _ _ _ _ (by kernel_rfl)];simp only[Yw];rw[run_neq_struct,run_equalIn_struct w 9999 AI _ _ (by kernel_rfl) (by kernel_rfl)];rw[Nw 9998 w (eRg a) (eRg b) _ [0,1,2,3,4] [a.kind,a.AV,a.top,a.BE,a.AO] [b.kind,b.AV,b.top,b.BE,b.AO] hfs rfl rfl];simp only[Yw];have:([a.kind,a.AV,a.top,a.BE,a.AO] == [b.kind,b.AV,b.top,b.BE,b.AO]) = (a == b):=by
  rw[Zb];obtain⟨a1,a2,a3,a4,a5⟩:=a;obtain⟨b1,b2,b3,b4,b5⟩:=b;simp
 rw[this];subst hw;exact⟨BK.refl _,H _ hs⟩
end Go.Lf
end
section
namespace Sm
def gv {α:Type} (d:α) (l:List α) (a:Int):α:=l.getD a.toNat d
theorem Pv {α:Type} {d:α} {l:List α} {a x:Int} {v:α} (h0:0≤a) (h1:a < l.length) (hx:0≤x):gv d (AT l a v) x = if x = a then v else gv d l x:=by
 unfold gv AT;rw[Ym,Ym,aV];by_cases h:x = a
 ·subst h;rw[if_pos rfl,if_pos rfl,if_pos ω];rfl
 ·rw[if_neg ω,if_neg h]
theorem NK {α:Type} {d:α} {l:List α} {a:Int} (h0:0≤a) (h1:a < l.length):idx l a = some (gv d l a):=by
 unfold idx gv;rw[if_pos h0,Ym,Yi ω];rfl
theorem FJ {α:Type} {l:List α} {a:Int} {v:α} (d:α) (h:idx l a = some v):0≤a∧a < l.length∧gv d l a = v:=by
 unfold idx at h;split at h
 ·obtain⟨hi,he⟩:=ZJ.1 h;refine⟨‹_›,ω,?_⟩;unfold gv;rw[Ym,h];rfl
 ·cases h
theorem Fm {α:Type} {d:α} {l:List α} {k:Nat} (h:k < l.length):gv d l (k:Int) = l[k]:=by
 unfold gv;rw[Yj,Ym,Yi h];rfl
theorem XF {α:Type} {d:α} {l:List α} {a:Int} (h0:0≤a) (h:l.length≤a):gv d l a = d:=by
 unfold gv;rw[Ym,Zd ω];rfl
@[simp] theorem DG {α:Type} {l:List α} {a:Int} {v:α}:(AT l a v).length = l.length:=by simp[AT]
@[reducible] def wv (l:List Int) (a:Int):Int:=gv 0 l a
@[reducible] def mv (l:List Bool) (a:Int):Bool:=gv false l a
@[reducible] def rv (t:List Rg) (r:Int):Rg:=gv DO t r
theorem Uq {l:List Int} {a:Int} (h0:0≤a) (h1:a < l.length):idx l a = some (wv l a):=NK h0 h1
theorem Qe {l:List Bool} {a:Int} (h0:0≤a) (h1:a < l.length):idx l a = some (mv l a):=NK h0 h1
theorem DB {l:List Rg} {a:Int} (h0:0≤a) (h1:a < l.length):idx l a = some (rv l a):=NK h0 h1
theorem Cb {l:List Int} {a x v:Int} (h0:0≤a) (h1:a < l.length) (hx:0≤x):wv (AT l a v) x = if x = a then v else wv l x:=Pv h0 h1 hx
theorem Pa {l:List Bool} {a x:Int} {v:Bool} (h0:0≤a) (h1:a < l.length) (hx:0≤x):mv (AT l a v) x = if x = a then v else mv l x:=Pv h0 h1 hx
theorem DS {l:List Rg} {a x:Int} {v:Rg} (h0:0≤a) (h1:a < l.length) (hx:0≤x):rv (AT l a v) x = if x = a then v else rv l x:=Pv h0 h1 hx
theorem DU {t:List Rg} {r:Int} (h0:0≤r) (h:t.length≤r):rv t r = DO:=XF h0 h
structure Hl (r:Int) (x:Rg):Prop where
 k0:1≤x.kind
 k1:x.kind≤4
 t0:16 * r≤x.top
 t1:x.top≤16 * r + 16
 s0:16 * r≤x.BE
 s1:x.BE≤x.top
 l0:0≤x.AO
 l1:x.AO≤x.top - 16 * r
 fr:x.kind = 1→x.top = 16 * r
 ow:x.kind = 2↔0≤x.AV
 o0:-1≤x.AV
 o1:x.AV≤3
structure TOk (t:List Rg):Prop where
 n0:2≤t.length
 n1:t.length≤12
 e:rv t 0 = DO
 row:∀r:Int,1≤r→r < t.length→Hl r (rv t r)
 own:∀r s:Int,1≤r→r < t.length→1≤s→s < t.length→0≤(rv t r).AV→(rv t r).AV = (rv t s).AV→r = s
theorem CO {r:Int} (h0:0≤r) (h1:r < 12):AH r = 16 * r:=by
 unfold AH;rw[if_neg ω];omega
theorem IV {r:Int} {x:Rg} (h0:0≤r) (h1:r < 12):Hu r x = true↔Hl r x:=by
 unfold Hu;rw[CO h0 h1];simp only[z_b,z_d,ZD,Z9,beq_eq_false_iff_ne,beq_iff_eq];constructor
 ·rintro⟨⟨⟨⟨⟨⟨⟨⟨⟨⟨⟨a,b⟩,c⟩,d⟩,e⟩,f⟩,g⟩,h⟩,i⟩,j⟩,k⟩,l⟩;refine⟨a,b,c,d,e,f,g,h,λhk=>?_,?_,k,l⟩
  ·rcases i with i | i
   ·exact absurd hk i
   ·exact i
  ·rw[Zb] at j;simpa using j
 ·rintro⟨a,b,c,d,e,f,g,h,i,j,k,l⟩;refine⟨⟨⟨⟨⟨⟨⟨⟨⟨⟨⟨a,b⟩,c⟩,d⟩,e⟩,f⟩,g⟩,h⟩,?_⟩,?_⟩,k⟩,l⟩
  ·by_cases hk:x.kind = 1
   ·exact .inr (i hk)
   ·exact .inl hk
  ·rw[Zb];simpa using j
theorem KU:∀(l:List Rg) (i:Nat),i + l.length≤12→(Kt i l = true↔(∀k (h:k < l.length),Hl (i + k:Nat) l[k])∧∀k m (h:k < m) (hm:m < l.length),0≤(l[k]).AV→(l[m]).AV≠(l[k]).AV):=by
 intro l;induction l with
 | nil=>intro i _;simp[Kt]
 | cons x r ih=>
  intro i hi;simp only[Yt] at hi;simp only[Kt,z_b,ih (i + 1) ω,IV (r:=(i:Int)) ω ω,ZD,z_d,ZC,Z9,beq_eq_false_iff_ne];constructor
  ·rintro⟨⟨h1,h2⟩,h3,h4⟩;refine⟨λk h=>?_,λk m h hm ho=>?_⟩
   ·cases k with
    | zero=>exact h1
    | succ k=>
     have:=h3 k (by simpa using h);rw[show i + (k + 1) = i + 1 + k from ω];exact this
   ·cases m with
    | zero=>omega
    | succ m=>
     cases k with
     | zero=>
      simp only[List.getElem_cons_zero] at ho;rcases h2 with h2 | h2
      ·omega
      ·exact h2 _ (Yq (by simpa using hm))
     | succ k=>exact h4 k m ω (by simpa using hm) (by simpa using ho)
  ·rintro⟨h1,h2⟩;refine⟨⟨h1 0 σ,?_⟩,λk h=>?_,λk m h hm ho=>?_⟩
   ·by_cases hx:x.AV < 0
    ·exact .inl hx
    ·refine .inr λy hy=>?_
     obtain⟨n,hn,rfl⟩:=ZF hy;exact h2 0 (n + 1) ω (by simpa using hn) (by simpa using hx)
   ·have:=h1 (k + 1) (by simpa using h);rw[show i + 1 + k = i + (k + 1) from ω];exact this
   ·exact h2 (k + 1) (m + 1) ω (by simpa using hm) (by simpa using ho)
theorem Bm {t:List Rg}:BT t = true↔TOk t:=by
 cases t with
 | nil=>simp[BT];intro h;have:=h.n0;simp at this
 | cons e r=>
  simp only[BT,z_b,z_d,beq_iff_eq];have gz:rv (e :: r) 0 = e:=rfl;have gs:∀k (h:k < r.length),rv (e :: r) ((1 + k:Nat):Int) = r[k]:=λk h=>by
   rw[rv,Fm (by simp;omega)];simp only[Nat.add_comm 1 k,ab]
  constructor
  ·rintro⟨⟨⟨h1,h2⟩,h3⟩,h4⟩;rw[KU r 1 ω] at h4;have sp:∀x:Int,1≤x→x < (e :: r).length→∃k,∃h:k < r.length,x = ((1 + k:Nat):Int)∧rv (e :: r) x = r[k]:=λx hx hx2=>by
    simp only[Yt] at hx2;refine⟨x.toNat - 1,ω,ω,?_⟩;have:=gs (x.toNat - 1) ω;rw[show ((1 + (x.toNat - 1):Nat):Int) = x from ω] at this;exact this
   refine⟨by simp;omega,by simp;omega,by rw[gz];exact h3,λx hx hx2=>?_,λx y hx hx2 hy hy2 ho he=>?_⟩
   ·obtain⟨k,h,hk,hv⟩:=sp x hx hx2;rw[hv,hk];exact h4.1 k h
   ·obtain⟨k,h,hk,hv⟩:=sp x hx hx2;obtain⟨m,h',hm,hv'⟩:=sp y hy hy2;rw[hv,hv'] at he;rw[hv] at ho;rcases Nat.lt_trichotomy k m with c | c | c
    ·exact absurd he.symm (h4.2 k m c h' ho)
    ·omega
    ·exact absurd he (h4.2 m k c h (he▸ho))
  ·intro T;have n0:=T.n0;have n1:=T.n1;simp only[Yt] at n0 n1;refine⟨⟨⟨ω,ω⟩,by rw[← gz];exact T.e⟩,?_⟩;rw[KU r 1 ω];refine⟨λk h=>?_,λk m h hm ho he=>?_⟩
   ·rw[← gs k h];exact T.row _ ω (by simp;omega)
   ·rw[← gs m hm,← gs k ω] at he;rw[← gs k ω] at ho;have:=T.own _ _ ω (by simp;omega) ω (by simp;omega) ho he.symm;omega
theorem TOk.set {t:List Rg} {r:Int} {x:Rg} (T:TOk t) (h0:1≤r) (h1:r < t.length) (hx:Hl r x) (ho:∀s:Int,1≤s→s < t.length→s≠r→0≤x.AV→(rv t s).AV≠x.AV):TOk (AT t r x):=by
 have gs:∀s,0≤s→rv (AT t r x) s = if s = r then x else rv t s:=λs hs=>DS ω h1 hs
 refine⟨by simpa using T.n0,by simpa using T.n1,?_,λs hs hs2=>?_,λs u hs hs2 hu hu2 h he=>?_⟩
 ·rw[gs 0 ω,if_neg ω];exact T.e
 ·rw[gs s ω];by_cases c:s = r
  ·rw[if_pos c,c];exact hx
  ·rw[if_neg c];exact T.row s hs (by simpa using hs2)
 ·simp only[DG] at hs2 hu2;rw[gs s ω] at h he;rw[gs u ω] at he;by_cases c:s = r<;>by_cases d:u = r
  ·omega
  ·rw[if_pos c] at h he;rw[if_neg d] at he;exact absurd he.symm (ho u hu hu2 d h)
  ·rw[if_neg c] at h he;rw[if_pos d] at he;exact absurd he (ho s hs hs2 c (he▸h))
  ·rw[if_neg c] at h he;rw[if_neg d] at he;exact T.own s u hs hs2 hu hu2 h he
theorem SP (p:Rg→Bool):∀(l:List Rg) (n:Nat),(C7 p n l = -1∧∀k (h:k < l.length),p l[k] = false)∨∃k,∃h:k < l.length,C7 p n l = (n + k:Nat)∧p l[k] = true:=by
 intro l;induction l with
 | nil=>intro n;left;exact⟨rfl,λk h=>by simp at h⟩
 | cons x r ih=>
  intro n;simp only[C7];cases hx:p x with
  | true=>right;exact⟨0,σ,σ,by simpa using hx⟩
  | false=>
   rcases ih (n + 1) with ⟨h1,h2⟩ | ⟨k,h,h1,h2⟩
   ·left;refine⟨by simpa using h1,λk h=>?_⟩;cases k with
    | zero=>exact hx
    | succ k=>exact h2 k (by simpa using h)
   ·right;exact⟨k + 1,by simpa using h,by simp[h1];omega,by simpa using h2⟩
theorem Hv {t:List Rg} {k:Nat} (h:k < t.tail.length):t.tail[k] = rv t ((1 + k:Nat):Int):=by
 rw[rv,Fm (by simp at h;omega)];simp[List.getElem_tail,Nat.add_comm]
theorem FR (p:Rg→Bool) (t:List Rg):(C7 p 1 t.tail = -1∧∀r:Int,1≤r→r < t.length→p (rv t r) = false)∨(1≤C7 p 1 t.tail∧C7 p 1 t.tail < t.length∧p (rv t (C7 p 1 t.tail)) = true):=by
 rcases SP p t.tail 1 with ⟨h1,h2⟩ | ⟨k,h,h1,h2⟩
 ·left;refine⟨h1,λr h0 hr=>?_⟩;have:=h2 (r.toNat - 1) (by simp;omega);rw[Hv,show ((1 + (r.toNat - 1):Nat):Int) = r from ω] at this;exact this
 ·right;rw[Hv h] at h2;rw[h1];simp at h;exact⟨ω,ω,h2⟩
structure Qz (t:List Rg) (o size:Int) (t' : List Rg) (d:Int):Prop where
 ok:TOk t'
 len:t'.length = t.length
 d0:16≤d
 dk:(rv t' (d / 16)).kind = 2
 do_:(rv t' (d / 16)).AV = o
 dt:(rv t' (d / 16)).top = d
 fit:d + size≤16 * (d / 16) + 16
 top:∀r,0≤r→(rv t' r).top = (rv t r).top
 BE:∀r,0≤r→(rv t' r).BE = (rv t r).BE
 AO:∀r,0≤r→(rv t' r).AO = (rv t r).AO
 frm:∀r,0≤r→((rv t' r).kind = 4↔(rv t r).kind = 4)
 oth:∀r,0≤r→(rv t r).kind = 2→(rv t r).AV≠o→rv t' r = rv t r
theorem MF {t:List Rg} {o size:Int} (T:TOk t) (o0:0≤o) (o1:o≤3) (hn:own t o < 0) (s1:size≤16):CF t o = none∨∃t' r,CF t o = some (t',r)∧Qz t o size t' (AH r):=by
 unfold CF;rw[if_pos (by simp[Bm.2 T,o0,o1,hn])];rcases FR (λx=>x.kind == 1) t with ⟨h1,_⟩ | ⟨h1,h2,h3⟩
 ·left;simp only[h1];rfl
 ·right;generalize C7 (λx=>x.kind == 1) 1 t.tail = r at h1 h2 h3;have hk:(rv t r).kind = 1:=by simpa using h3
  have n1:=T.n1;have hb:=CO (r:=r) ω ω;have R:=T.row r h1 h2;have hno:∀s:Int,1≤s→s < t.length→¬ ((rv t s).kind = 2∧(rv t s).AV = o):=by
   intro s hs hs2 hh;rcases FR (λx=>x.kind == 2 && x.AV == o) t with ⟨_,g⟩ | ⟨g,_,_⟩
   ·have:=g s hs hs2;simp[hh.1,hh.2] at this
   ·unfold own at hn;omega
  have hto:=R.fr hk;refine⟨_,_,by dsimp only;rw[if_neg ω,hb],?_⟩;have gs:∀s,0≤s→rv (AT t r ⟨2,o,16 * r,16 * r,0⟩) s = if s = r then ⟨2,o,16 * r,16 * r,0⟩ else rv t s:=λs hs=>DS ω h2 hs
  have ed:16 * r / 16 = r:=ω
  have s0':=R.s0;have s1':=R.s1;have l0':=R.l0;have l1':=R.l1;refine⟨?_,σ,by rw[hb];omega,?_,?_,?_,by rw[hb];omega,?_,?_,?_,?_,?_⟩
  ·refine T.set h1 h2 ⟨σ,σ,by exact ZI _,?_,by exact ZI _,by exact ZI _,σ,?_,?_,?_,?_,o1⟩ λs hs hs2 hne ho he=>?_
   ·show 16 * r≤16 * r + 16;omega
   ·show 0≤16 * r - 16 * r;omega
   ·intro h;cases h
   ·exact⟨λ_=>o0,λ_=>rfl⟩
   ·show -1≤o;omega
   ·have:=(T.row s hs hs2).ow.2 (by rw[he];exact o0);exact hno s hs hs2 ⟨this,he⟩
  ·rw[hb,ed,gs r ω,if_pos rfl]
  ·rw[hb,ed,gs r ω,if_pos rfl]
  ·rw[hb,ed,gs r ω,if_pos rfl]
  ·intro s hs;rw[gs s hs];split
   ·subst s;exact hto.symm
   ·rfl
  ·intro s hs;rw[gs s hs];split
   ·subst s;simp only[];omega
   ·rfl
  ·intro s hs;rw[gs s hs];split
   ·subst s;simp only[];omega
   ·rfl
  ·intro s hs;rw[gs s hs];split
   ·subst s;simp only[];omega
   ·exact Iff.rfl
  ·intro s hs hk2 ho;rw[gs s hs];split
   ·subst s;omega
   ·rfl
theorem Fk {t:List Rg} {o size:Int} (T:TOk t) (o0:0≤o) (o1:o≤3) (s0:1≤size) (s1:size≤16):BX t o size = none∨∃t' d,BX t o size = some (t',d)∧Qz t o size t' d:=by
 unfold BX;rw[if_pos (by simp[Bm.2 T,o0,o1,s0,s1])];have n1:=T.n1;dsimp only;rcases FR (λx=>x.kind == 2 && x.AV == o) t with ⟨h1,h2⟩ | ⟨h1,h2,h3⟩
 ·have ho:own t o = -1:=h1;rw[ho];rw[if_neg ω];rcases MF (size:=size) T o0 o1 (by rw[ho];omega) s1 with h | ⟨t',r,h,hr⟩
  ·left;simp only[h]
  ·right;simp only[h];exact⟨_,_,rfl,hr⟩
 ·have ho:own t o = C7 (λx=>x.kind == 2 && x.AV == o) 1 t.tail:=rfl;rw[← ho] at h1 h2 h3;generalize own t o = r at h1 h2 h3;simp only[z_b,beq_iff_eq] at h3;have R:=T.row r h1 h2;have hb:=CO (r:=r) ω ω;rw[if_pos ω,DB ω h2];dsimp only;rw[hb];by_cases hf:(rv t r).top + size≤16 * r + 16
  ·right;have t0:=R.t0;have ed:(rv t r).top / 16 = r:=ω
   refine⟨_,_,by rw[if_pos hf],T,rfl,ω,by rw[ed];exact h3.1,by rw[ed];exact h3.2,by rw[ed],by rw[ed];exact hf,λ_ _=>rfl,λ_ _=>rfl,λ_ _=>rfl,λ_ _=>Iff.rfl,λ_ _ _ _=>rfl⟩
  ·rw[if_neg hf];have hcl:Cm t r = some (AT t r { rv t r with kind:=3,AV:=-1 }):=by
    unfold Cm;rw[if_pos (by simp[Bm.2 T,h1]),DB ω h2];dsimp only;rw[if_pos (by simpa using h3.1)]
   rw[hcl];simp only[Zi];have gs:∀s,0≤s→rv (AT t r { rv t r with kind:=3,AV:=-1 }) s = if s = r then { rv t r with kind:=3,AV:=-1 } else rv t s:=λs hs=>DS ω h2 hs
   have T2:TOk (AT t r { rv t r with kind:=3,AV:=-1 }):=by
    refine T.set h1 h2 ⟨σ,σ,R.t0,R.t1,R.s0,R.s1,R.l0,R.l1,?_,?_,σ,σ⟩ λs hs hs2 hne ho he=>?_
    ·intro h;cases h
    ·simp
    ·simp at ho
   have hno:own (AT t r { rv t r with kind:=3,AV:=-1 }) o < 0:=by
    rcases FR (λx=>x.kind == 2 && x.AV == o) (AT t r { rv t r with kind:=3,AV:=-1 }) with ⟨g,_⟩ | ⟨g1,g2,g3⟩
    ·unfold own;rw[g];decide
    ·exfalso;generalize C7 (λx=>x.kind == 2 && x.AV == o) 1 (AT t r { rv t r with kind:=3,AV:=-1 }).tail = s at g1 g2 g3;rw[gs s ω] at g3;simp only[DG] at g2;by_cases c:s = r
     ·rw[if_pos c] at g3;simp at g3
     ·rw[if_neg c] at g3;simp only[z_b,beq_iff_eq] at g3;exact c (T.own s r g1 g2 h1 h2 (by rw[g3.2];exact o0) (by rw[g3.2,h3.2]))
   rcases MF (size:=size) T2 o0 o1 hno s1 with h | ⟨t',u,h,hr⟩
   ·left;simp only[h]
   ·right;simp only[h];refine⟨_,_,rfl,hr.ok,by rw[hr.len];simp,hr.d0,hr.dk,hr.do_,hr.dt,hr.fit,λs hs=>?_,λs hs=>?_,λs hs=>?_,λs hs=>?_,λs hs hk hoo=>?_⟩
    ·rw[hr.top s hs,gs s hs];split
     ·subst s;rfl
     ·rfl
    ·rw[hr.BE s hs,gs s hs];split
     ·subst s;rfl
     ·rfl
    ·rw[hr.AO s hs,gs s hs];split
     ·subst s;rfl
     ·rfl
    ·rw[hr.frm s hs,gs s hs];split
     ·subst s;simp only[];omega
     ·exact Iff.rfl
    ·have hne:s≠r:=by intro c;subst c;exact hoo h3.2
     have:=hr.oth s hs (by rw[gs s hs,if_neg hne];exact hk) (by rw[gs s hs,if_neg hne];exact hoo);rw[this,gs s hs,if_neg hne]
end Sm
end
