/- A part of the proof of the given row: the walk of the law and of all that it calls. Conditions: none. -/
import Derived.Laws.StructEq
import Derived.ChangeKeysEq
import Derived.Test.YtoajhnhjmhdfdaaGreatVH
set_option linter.unusedVariables false
set_option linter.unusedSimpArgs false
section
namespace Go.Lf
open Go Sm
def rowsE {α:Type} (f:α→List Value) (l:List α):List Value:=(l.map f).flatten
@[reducible] def eRg (x:Rg):List Value:=[I x.kind,I x.owner,I x.top,I x.tams,I x.live]
@[reducible] def eOp (o:Sm.Op):List Value:=[I o.kind,I o.a,I o.b,I o.c,I o.f,I o.v,I o.sh.refs,I o.sh.nums]
def eThr (t:Thr) (rv:Value):List Value:=[rv,I t.next,I t.tried,I t.pc,I t.h,I t.g,I t.k,I t.u,I t.v,I t.sh.refs,I t.sh.nums,I t.src,I t.dst,I t.size,I t.i,I t.word,I t.ret]
@[reducible] def eEv (e:Ev):List Value:=[I e.thread,I e.next,I e.ans,I e.code]
def Fz (R:RM) (v:Value) (w n:Nat) (cells:List Value):Prop:=
 (v = .slice none 0 0∧n = 0∧cells = [])∨∃b o cap t cs,v = .slice (some ⟨b,o,none⟩) n cap∧R b = some (C t cs)∧o + n * w≤cs.length∧(cs.drop o).take (n * w) = cells∧n≤cap
theorem Fz.le {R R' : RM} {v:Value} {w n:Nat} {cells:List Value} (h:R.le R') (H:Fz R v w n cells):Fz R' v w n cells:=by
 rcases H with H | ⟨b,o,cap,t,cs,h1,h2,h3,h4,h5⟩
 ·exact .inl H
 ·exact .inr ⟨b,o,cap,t,cs,h1,h _ _ h2,h3,h4,h5⟩
def Ints (R:RM) (v:Value) (l:List Int):Prop:=Fz R v 1 l.length (l.map I)
def Ops (R:RM) (v:Value) (l:List Sm.Op):Prop:=Fz R v 8 l.length (rowsE eOp l)
def Progs (R:RM) (v:Value) (l:List (List Sm.Op)):Prop:=∃vs,Fz R v 1 l.length vs∧vs.length = l.length∧∀i (h:i < l.length),∃x,vs[i]? = some x∧Ops R x (l[i])
structure Img where
 progs:Value
 wb:Nat
 wc:Nat
 wsp:List Value
 tb:Nat
 tc:Nat
 tsp:List Value
 mb:Nat
 mc:Nat
 msp:List Value
 asked:Value
 want:Value
 threads:Value
 old:Value
 pins:Value
 hb:Nat
 hc:Nat
 hsp:List Value
 rv:List Value
 stack:Value
 ev:Option (Nat × Nat)
 esp:List Value
def evV (S:Sim) (g:Img):Value:=match g.ev with | none=>.slice none 0 0 | some (b,c)=>.slice (some ⟨b,0,none⟩) S.ev.length c
def evD (S:Sim) (g:Img):Chs:=match g.ev with | none=>[] | some (b,_)=>[(b,C T_Event (rowsE eEv S.ev ++ g.esp))]
def eCol (x:Col) (sv:Value):List Value:=[I x.pc,.bool x.asked,I x.want,sv,I x.r,I x.p,I x.i,I x.sh.refs,I x.sh.nums,I x.v,I x.f,I x.src,I x.dst,I x.size,I x.word]
def eSim (S:Sim) (g:Img):List Value:=
 I S.c.regions :: I S.c.threads :: I S.c.reserve :: g.progs :: .slice (some ⟨g.wb,0,none⟩) S.words.length g.wc :: .slice (some ⟨g.tb,0,none⟩) S.table.length g.tc :: .slice (some ⟨g.mb,0,none⟩) S.marks.length g.mc ::
 I S.phase :: .bool S.stop :: .bool S.full :: g.asked :: g.want :: g.threads :: g.old :: g.pins :: I S.cycles :: I S.fulls :: .slice (some ⟨g.hb,0,none⟩) S.th.length g.hc ::
 I S.col.pc :: .bool S.col.asked :: I S.col.want :: g.stack :: I S.col.r :: I S.col.p :: I S.col.i :: I S.col.sh.refs :: I S.col.sh.nums :: I S.col.v :: I S.col.f :: I S.col.src :: I S.col.dst :: I S.col.size :: I S.col.word ::
 evV S g :: .bool S.used :: []
def eThs (l:List Thr) (rv:List Value):List Value:=(List.zipWith eThr l rv).flatten
def simD (p:Nat) (S:Sim) (g:Img):Chs:=
 (p,C T_l8Sim (eSim S g)) :: (g.wb,C T_int (S.words.map I ++ g.wsp)) :: (g.tb,C T_Region (rowsE eRg S.table ++ g.tsp)) :: (g.mb,C T_bool (S.marks.map Value.bool ++ g.msp)) :: (g.hb,C T_l8Thread (eThs S.th g.rv ++ g.hsp)) :: evD S g
structure Ok (R:RM) (S:Sim) (g:Img):Prop where
 progs:Progs R g.progs S.progs
 old:Ints R g.old S.old
 pins:Ints R g.pins S.pins
 stack:Ints R g.stack S.col.stack
 rvl:g.rv.length = S.th.length
 rv:∀i (h:i < S.th.length) (h' : i < g.rv.length),Ints R (g.rv[i]) (S.th[i]).roots
 ev0:g.ev = none→S.ev = []
 ev1:∀b c,g.ev = some (b,c)→S.ev.length≤c∧g.esp.length = (c - S.ev.length) * 4
 wl:S.words.length≤1000
 tl:S.table.length≤1000
 ml:S.marks.length≤1000
 hl:S.th.length≤1000
 fl:flat g.asked = true∧flat g.want = true∧flat g.threads = true
 wk:S.words.length≤g.wc
 tk:S.table.length≤g.tc
 mk_:S.marks.length≤g.mc
theorem Ok.le {R R' : RM} {S:Sim} {g:Img} (h:R.le R') (H:Ok R S g):Ok R' S g:=by
 refine⟨?_,H.old.le h,H.pins.le h,H.stack.le h,H.rvl,λi h1 h2=>(H.rv i h1 h2).le h,H.ev0,H.ev1,H.wl,H.tl,H.ml,H.hl,H.fl,H.wk,H.tk,H.mk_⟩
 obtain⟨vs,h1,h2,h3⟩:=H.progs
 exact⟨vs,h1.le h,h2,λi hi=>by obtain⟨x,hx,ho⟩:=h3 i hi;exact⟨x,hx,ho.le h⟩⟩
def SimQ (p:Nat) (S' : Sim) (r:Value→Prop) (v:Value) (R' : RM) (A:Chs):Prop:=r v∧∃g',A = simD p S' g'∧Ok R' S' g'
instance (priority:=low) At.appr (A F:Chs) (b:Nat) (o:Obj) [t:At F b o]:At (A ++ F) b o:=⟨List.mem_append_right _ t.m⟩
instance (priority:=low) Up.appr (A D:Chs) (b:Nat) (o o' : Obj) (D' : Chs) [t:Up D b o o' D']:Up (A ++ D) b o o' (A ++ D'):=
 ⟨List.mem_append_right _ t.m,List.mem_append_right _ t.m',by simp[t.f],λb' x h=>by
  rcases List.mem_append.1 h with h | h
  ·exact .inr (List.mem_append_left _ h)
  ·rcases t.u b' x h with h | h
   ·exact .inl h
   ·exact .inr (List.mem_append_right _ h)⟩
instance (priority:=low) Tk.appr (A D:Chs) (b:Nat) (o:Obj) (E:Chs) [t:Tk D b o E]:Tk (A ++ D) b o (A ++ E):=
 ⟨(t.p.append_left A).trans List.perm_middle⟩
instance Sp.pre (A F:Chs):Sp (A ++ F) A F:=⟨List.Perm.refl _⟩
instance (priority:=low) Sp.skip (c:Nat × Obj) (D A F:Chs) [s:Sp D A F]:Sp (c :: D) A (c :: F):=⟨(s.p.cons c).trans (List.perm_middle.symm)⟩
instance (priority:=low) Sp.self (A:Chs):Sp A A []:=⟨by simp⟩
instance (priority:=low) Sf.appl (X G F:Chs) [s:Sf G F]:Sf (X ++ G) F:=⟨by obtain⟨Y,h⟩:=s.p;exact⟨X ++ Y,by rw[h,List.append_assoc]⟩⟩
section sim
variable (p:Nat) (S:Sim) (g:Img)
instance At.sim:At (simD p S g) p (C T_l8Sim (eSim S g)):=⟨by simp[simD]⟩
instance At.words:At (simD p S g) g.wb (C T_int (S.words.map I ++ g.wsp)):=⟨by simp[simD]⟩
instance At.table:At (simD p S g) g.tb (C T_Region (rowsE eRg S.table ++ g.tsp)):=⟨by simp[simD]⟩
instance At.marks:At (simD p S g) g.mb (C T_bool (S.marks.map Value.bool ++ g.msp)):=⟨by simp[simD]⟩
instance At.ths:At (simD p S g) g.hb (C T_l8Thread (eThs S.th g.rv ++ g.hsp)):=⟨by simp[simD]⟩
end sim
class Fd (D:Chs) (p:Nat) (S:outParam Sim) (g:outParam Img) (G:outParam Chs):Prop where
 ex:D.Perm (simD p S g ++ G)
instance Fd.front (p:Nat) (S:Sim) (g:Img) (F:Chs):Fd (simD p S g ++ F) p S g F:=⟨List.Perm.refl _⟩
instance Fd.self (p:Nat) (S:Sim) (g:Img):Fd (simD p S g) p S g []:=⟨by simp⟩
instance (priority:=low) Fd.cons (c:Nat × Obj) (D G:Chs) (p:Nat) (S:Sim) (g:Img) [w:Fd D p S g G]:Fd (c :: D) p S g (c :: G):=⟨(w.ex.cons c).trans List.perm_middle.symm⟩
instance (priority:=low) Fd.appr (A D G:Chs) (p:Nat) (S:Sim) (g:Img) [w:Fd D p S g G]:Fd (A ++ D) p S g (A ++ G):=
 ⟨(w.ex.append_left A).trans (by rw[← List.append_assoc,← List.append_assoc];exact List.Perm.append_right G List.perm_append_comm)⟩
theorem lay_one {cs:List Value} {o:Nat} {v:Value} (h:o < cs.length):lay cs o [v] = cs.set o v:=by
 simp only[lay,List.length_singleton]
 rw[List.set_eq_take_append_cons_drop,if_pos h];simp
section stores
variable {R:RM} {D G:Chs} {p:Nat} {S:Sim} {g:Img} {m:M}
theorem jss {o n:Nat} {x:Value} (S' : Sim) (g' : Img) [w:Fd D p S g G] (hn:(cl x).length = n) (hf:allFlat (cl x) = true) (ho:o + n≤35) (hc:lay (eSim S g) o (cl x) = eSim S' g')
  (hb:(simD p S g).tail = (simD p S' g').tail) (H:J R (simD p S' g' ++ G) m):J R D (ST n (.pointer (some ⟨p,o,none⟩)) x m):=by
 intro h hs
 refine js (R:=R) (D:=simD p S g ++ G) (t:=T_l8Sim) (cs:=eSim S g) (cs':=eSim S' g') (D':=simD p S' g' ++ G) hn hf ho hc H h (hs.perm w.ex) (u:=?_)
 have e1:simD p S g = (p,C T_l8Sim (eSim S g)) :: (simD p S' g').tail:=by rw[← hb];rfl
 have e2:simD p S' g' = (p,C T_l8Sim (eSim S' g')) :: (simD p S' g').tail:=rfl
 rw[e1,e2]
 exact inferInstance
theorem jsw {i:Nat} {v:Int} (S' : Sim) [w:Fd D p S g G] (hi:i < S.words.length) (hS:S' = { S with words:=S.words.set i v }) (H:J R (simD p S' g ++ G) m):J R D (ST 1 (.pointer (some ⟨g.wb,i,none⟩)) (I v) m):=by
 subst hS
 intro h hs
 refine js (R:=R) (D:=simD p S g ++ G) (t:=T_int) (cs:=S.words.map I ++ g.wsp) (cs':=(S.words.set i v).map I ++ g.wsp) (D':=simD p { S with words:=S.words.set i v } g ++ G) rfl rfl (by simp;omega) ?_ H h (hs.perm w.ex) (u:=?_)
 ·rw[show cl (I v) = [I v] from rfl,lay_one (by simp;omega),List.set_append_left _ _ (by simpa using hi),List.map_set]
 ·have e1:eSim { S with words:=S.words.set i v } g = eSim S g:=by simp[eSim,evV]
  unfold simD evD
  rw[e1]
  exact inferInstance
theorem jretS {S' : Sim} {R0:RM} {F:Chs} {r:Value→Prop} {v:Value} [w:Fd D p S g G] (h1:R0.le R) (h2:r v) (hS:S = S') (ok:Ok R S' g) [x:Sf G F]:J R D (POST R0 F (SimQ p S' r) v):=by
 subst hS
 intro h hs
 exact jret (D:=simD p S g ++ G) h1 ⟨h2,g,rfl,ok⟩ h (hs.perm w.ex)
end stores
theorem ints_get {ws:List Int} {sp:List Value} {i:Nat} (h:i < ws.length):(ws.map I ++ sp)[i]? = some (I (ws[i])):=by
 rw[List.getElem?_append_left (by simpa using h)]
 simp[h]
theorem bools_get {ws:List Bool} {sp:List Value} {i:Nat} (h:i < ws.length):(ws.map Value.bool ++ sp)[i]? = some (.bool (ws[i])):=by
 rw[List.getElem?_append_left (by simpa using h)]
 simp[h]
theorem idx_some {α:Type} {l:List α} {i:Int} {v:α} (h:idx l i = some v):0≤i∧i < l.length∧∃hi:i.toNat < l.length,l[i.toNat] = v:=by
 unfold idx at h
 split at h
 ·obtain⟨hi,he⟩:=List.getElem?_eq_some_iff.1 h
  exact⟨‹_›,by omega,hi,he⟩
 ·cases h
theorem flat_len {w:Nat}:∀{ls:List (List Value)},(∀x∈ls,x.length = w)→ls.flatten.length = ls.length * w:=by
 intro ls;induction ls with
 | nil=>intro _;simp
 | cons a r ih=>
  intro h
  rw[List.flatten_cons,List.length_append,ih λx hx=>h x (by simp[hx]),h a (by simp),List.length_cons,Nat.add_mul];omega
theorem flat_get {w:Nat} {sp:List Value}:∀{ls:List (List Value)} (i:Nat) (hi:i < ls.length),(∀x∈ls,x.length = w)→((ls.flatten ++ sp).drop (i * w)).take w = ls[i]:=by
 intro ls;induction ls with
 | nil=>intro i hi;simp at hi
 | cons a r ih=>
  intro i hi h
  have ha:a.length = w:=h a (by simp)
  cases i with
  | zero=>
   rw[Nat.zero_mul,List.drop_zero,List.flatten_cons,List.append_assoc,List.take_append_of_le_length (by omega),← ha,List.take_length];rfl
  | succ i=>
   rw[List.flatten_cons,List.append_assoc,Nat.add_mul,Nat.one_mul,List.drop_append,List.drop_eq_nil_of_le (by rw[ha];exact Nat.le_add_left _ _),ln,ha,Nat.add_sub_cancel]
   simpa using ih i (by simpa using hi) λx hx=>h x (by simp[hx])
theorem lay_app {a b l:List Value} {o:Nat} (h:a.length≤o):lay (a ++ b) o l = a ++ lay b (o - a.length) l:=by
 simp only[lay]
 rw[List.take_append,List.take_of_length_le h,List.drop_append,List.drop_eq_nil_of_le (by omega),ln]
 rw[show o + l.length - a.length = o - a.length + l.length from by omega]
 simp[List.append_assoc]
theorem lay_pre {a b l:List Value} (h:l.length = a.length):lay (a ++ b) 0 l = l ++ b:=by
 simp only[lay,List.take_zero,ln,Nat.zero_add,h,List.drop_left]
theorem flat_set {w:Nat} {sp x:List Value} (hx:x.length = w):∀{ls:List (List Value)} (i:Nat),i < ls.length→(∀x∈ls,x.length = w)→lay (ls.flatten ++ sp) (i * w) x = (ls.set i x).flatten ++ sp:=by
 intro ls;induction ls with
 | nil=>intro i hi;simp at hi
 | cons a r ih=>
  intro i hi h
  have ha:a.length = w:=h a (by simp)
  cases i with
  | zero=>rw[Nat.zero_mul,List.flatten_cons,List.append_assoc,lay_pre (by omega)];simp
  | succ i=>
   rw[List.flatten_cons,List.append_assoc,lay_app (by rw[ha,Nat.add_mul,Nat.one_mul];exact Nat.le_add_left _ _),ha,Nat.add_mul,Nat.one_mul,Nat.add_sub_cancel,ih i (by simpa using hi) λx hx=>h x (by simp[hx])]
   simp
theorem eThr_len (t:Thr) (v:Value):(eThr t v).length = 17:=rfl
theorem ths_len {l:List Thr} {rv:List Value}:∀x∈List.zipWith eThr l rv,x.length = 17:=by
 intro x hx
 obtain⟨n,hn,rfl⟩:=List.getElem_of_mem hx
 rw[List.getElem_zipWith];rfl
theorem ths_get {l:List Thr} {rv sp:List Value} {i:Nat} (h:i < l.length) (h' : i < rv.length):((eThs l rv ++ sp).drop (i * 17)).take 17 = eThr (l[i]) (rv[i]):=by
 rw[eThs,flat_get i (by simp;omega) ths_len,List.getElem_zipWith]
theorem ths_set {l:List Thr} {rv sp:List Value} {i:Nat} {t:Thr} {v:Value} (h:i < l.length) (h' : i < rv.length):lay (eThs l rv ++ sp) (i * 17) (eThr t v) = eThs (l.set i t) (rv.set i v) ++ sp:=by
 rw[eThs,flat_set (eThr_len t v) i (by simp;omega) ths_len,eThs]
 congr 2
 apply List.ext_getElem?
 intro n
 simp only[List.getElem?_set,List.getElem?_zipWith,List.length_zipWith]
 by_cases hn:i = n
 ·subst hn
  rw[if_pos rfl,if_pos (by omega),if_pos rfl,if_pos h,if_pos rfl,if_pos h']
 ·rw[if_neg hn,if_neg hn,if_neg hn]
theorem ths_size {l:List Thr} {rv:List Value} (h:rv.length = l.length):(eThs l rv).length = l.length * 17:=by
 rw[eThs,flat_len ths_len];simp[h]
theorem rowsE_len {α:Type} {f:α→List Value} {w:Nat} (hf:∀x,(f x).length = w) {l:List α}:∀x∈l.map f,x.length = w:=by
 intro x hx;obtain⟨a,_,rfl⟩:=List.mem_map.1 hx;exact hf a
theorem rowsE_get {α:Type} {f:α→List Value} {w:Nat} (hf:∀x,(f x).length = w) {l:List α} {sp:List Value} {i:Nat} (h:i < l.length):((rowsE f l ++ sp).drop (i * w)).take w = f (l[i]):=by
 rw[rowsE,flat_get i (by simpa using h) (rowsE_len hf)];simp
theorem rowsE_set {α:Type} {f:α→List Value} {w:Nat} (hf:∀x,(f x).length = w) {l:List α} {sp:List Value} {i:Nat} {x:α} (h:i < l.length):lay (rowsE f l ++ sp) (i * w) (f x) = rowsE f (l.set i x) ++ sp:=by
 rw[rowsE,flat_set (hf x) i (by simpa using h) (rowsE_len hf),rowsE,List.map_set]
theorem rowsE_size {α:Type} {f:α→List Value} {w:Nat} (hf:∀x,(f x).length = w) (l:List α):(rowsE f l).length = l.length * w:=by
 rw[rowsE,flat_len (rowsE_len hf)];simp
section threads
variable {R:RM} {D G:Chs} {p:Nat} {S:Sim} {g:Img} {m:M} {k:Value→M}
theorem eSim_th (S:Sim) (g:Img) (th:List Thr) (rv:List Value) (h:th.length = S.th.length):eSim { S with th:=th } { g with rv:=rv } = eSim S g:=by simp[eSim,evV,h]
theorem jlt_ {i:Nat} [w:Fd D p S g G] (hi:i < S.th.length) (hr:g.rv.length = S.th.length) (H:J R D (k (.agg (eThr (S.th[i]) (g.rv[i]'(by omega))).toArray))):J R D (LA 17 (.pointer (some ⟨g.hb,0 + i * 17,none⟩)) k):=by
 intro h hs
 rw[Nat.zero_add]
 refine jla (R:=R) (D:=simD p S g ++ G) (t:=T_l8Thread) (cs:=eThs S.th g.rv ++ g.hsp) (k:=λv h=>k v h) ?_ (ths_get hi (by omega)) (λh' hs'=>H h' (hs'.perm w.ex.symm)) h (hs.perm w.ex)
 rw[List.length_append,ths_size hr];omega
theorem jst {i:Nat} {t:Thr} {v:Value} (S' : Sim) (g' : Img) [w:Fd D p S g G] (hi:i < S.th.length) (hr:g.rv.length = S.th.length) (hv:flat v = true) (hS:S' = { S with th:=S.th.set i t }) (hg:g' = { g with rv:=g.rv.set i v })
  (H:J R (simD p S' g' ++ G) m):J R D (ST 17 (.pointer (some ⟨g.hb,0 + i * 17,none⟩)) (.agg (eThr t v).toArray) m):=by
 subst hS hg
 intro h hs
 rw[Nat.zero_add]
 refine js (R:=R) (D:=simD p S g ++ G) (t:=T_l8Thread) (cs:=eThs S.th g.rv ++ g.hsp) (cs':=eThs (S.th.set i t) (g.rv.set i v) ++ g.hsp) (D':=simD p { S with th:=S.th.set i t } { g with rv:=g.rv.set i v } ++ G) rfl ?_ ?_ (ths_set hi (by omega)) H h (hs.perm w.ex) (u:=?_)
 ·show (flat v && true) = true
  rw[hv];rfl
 ·show i * 17 + 17≤_
  rw[List.length_append,ths_size hr];omega
 ·have e1:=eSim_th S g (S.th.set i t) (g.rv.set i v) (by simp)
  unfold simD evD
  rw[e1]
  exact inferInstance
end threads
theorem Ok.setT {R:RM} {S:Sim} {g:Img} (H:Ok R S g) {i:Nat} {t:Thr} {v:Value} (hv:Ints R v t.roots):Ok R { S with th:=S.th.set i t } { g with rv:=g.rv.set i v }:=by
 refine⟨H.progs,H.old,H.pins,H.stack,by simp[H.rvl],λj h1 h2=>?_,H.ev0,H.ev1,H.wl,H.tl,H.ml,by simpa using H.hl,H.fl,H.wk,H.tk,H.mk_⟩
 simp only[List.length_set] at h1 h2
 simp only[List.getElem_set]
 by_cases hij:i = j
 ·simp only[if_pos hij];exact hv
 ·simp only[if_neg hij];exact H.rv j h1 h2
end Go.Lf
end
section
namespace Go.Lf
open Go Sm
theorem St.le {h:Heap} {R R' : RM} {D:Chs} (hr:R.le R') (hs:St h R' D):St h R D:=by
 refine⟨λb o hb=>hs.rd b o (hr b o hb),λb o hm=>⟨(hs.at_ b o hm).1,?_⟩,hs.nd⟩
 cases hb:R b with
 | none=>rfl
 | some x=>have:=hr b x hb;rw[(hs.at_ b o hm).2] at this;cases this
def Pu (f:Nat) (args:List Value) (v:Value):Prop:=∀R,Fn P f args R [] λv' _ _=>v' = v
theorem jp {f:Nat} {args:List Value} {v:Value} {R:RM} {D:Chs} {k:Value→M} (hF:Pu f args v) (H:J R D (k v)):J R D (CA P f args k):=by
 intro h hs
 refine CA_mono ?_ (hF R D h hs)
 rintro v' h' ⟨R',A',h1,h2,h3⟩
 subst h3
 exact H h' (h2.drop.le h1)
section lit
variable {R:RM} {D:Chs} {k:Value→M} {a b:M} {x y:Value}
theorem jpkt (H:J R D (k x)):J R D (PK (.bool true) x y k):=H
theorem jpkf (H:J R D (k y)):J R D (PK (.bool false) x y k):=H
theorem jtt (H:J R D a):J R D (GT (.bool true) true a b):=H
theorem jft (H:J R D b):J R D (GT (.bool false) true a b):=H
theorem jtf (H:J R D b):J R D (GT (.bool true) false a b):=H
theorem jff (H:J R D a):J R D (GT (.bool false) false a b):=H
end lit
theorem p_RegionOf (a:Int) (h:regionOf a≤9223372036854775807):Pu F_s_RegionOf [I a] (I (regionOf a)):=by
 intro R
 refine s_s_RegionOf λF=>?_
 unfold c_s_RegionOf
 refine jlt ?_
 refine jif (λhc=>?_) (λhc=>?_)
 ·refine jret (A:=[]) (RM.le.refl R) ?_
  have:=z_f hc
  rw[regionOf,if_pos this]
 ·have:=z_g hc
  have e:a.tdiv 16 = a / 16:=Int.tdiv_eq_ediv_of_nonneg (by omega)
  refine jquo (by decide) (by rw[e];rw[regionOf,if_neg this] at h;constructor<;>omega) ?_
  refine jret (A:=[]) (RM.le.refl R) ?_
  rw[regionOf,if_neg this,e]
theorem q_RegionBase (r:Int) (R:RM) (F:Chs):J R ([] ++ F) (c_s_RegionBase (I r) (POST R F λv' _ _=>v' = I (regionBase r))):=by
 unfold c_s_RegionBase
 refine jcut (jlt (jgtf (λhc=>jge (jend λe he=>?_)) (λhc=>jend λe he=>?_)))<;>
  simp only[List.map,lj,z_t] at he<;>simp only[he,hc,cond_true,cond_false]
 ·refine jif (λhd=>?_) (λhd=>?_)
  ·refine jret (A:=[]) (RM.le.refl R) ?_
   have:=z_f hd
   rw[regionBase,if_pos (.inr this)]
  ·have h1:=z_g hd
   have h2:=z_g hc
   refine jmul (by constructor<;>omega) ?_
   refine jret (A:=[]) (RM.le.refl R) ?_
   rw[regionBase,if_neg (by omega)]
 ·refine jpkt (jift ?_)
  refine jret (A:=[]) (RM.le.refl R) ?_
  have:=z_f hc
  rw[regionBase,if_pos (.inl this)]
theorem p_RegionBase (r:Int):Pu F_s_RegionBase [I r] (I (regionBase r)):=λR=>s_s_RegionBase λF=>q_RegionBase r R F
@[reducible] def eSh (s:Shp):Value:=.agg #[I s.refs,I s.nums]
theorem q_ShapeOk (s:Shp) (R:RM) (F:Chs):J R ([] ++ F) (c_s_ShapeOk (eSh s) (POST R F λv' _ _=>v' = .bool (shapeOk s))):=by
 unfold c_s_ShapeOk
 refine ja λb=>?_
 have fin:∀c,c = shapeOk s→J R ((b,C T_Shape [I s.refs,I s.nums]) :: ([] ++ F)) (POST R F (λv' _ _=>v' = Value.bool (shapeOk s)) (.bool c)):=λc hc=>jret (A:=[]) (RM.le.refl R) (by rw[hc])
 refine jcut (jl rfl (jge (jgtt (λh1=>jl rfl (jle (jend λe he=>?_))) (λh1=>jend λe he=>?_))))<;>
  simp only[List.map,lj,z_t,h1] at he<;>simp only[he]
 ·refine jcut (jpkt (jgtt (λh2=>jl rfl (jge (jend λe he=>?_))) (λh2=>jend λe he=>?_)))<;>
   simp only[List.map,lj,z_t,h2] at he<;>simp only[he]
  ·refine jcut (jpkt (jgtt (λh3=>jl rfl (jle (jend λe he=>?_))) (λh3=>jend λe he=>?_)))<;>
    simp only[List.map,lj,z_t,h3] at he<;>simp only[he]
   ·refine jpkt (fin _ ?_)
    simp at h1 h2 h3
    simp[shapeOk,h1,h2,h3]
   ·refine jpkf (fin _ ?_)
    simp at h1 h2 h3
    simp[shapeOk,h1,h2];omega
  ·refine jcut (jpkf (jft (jend λe he=>?_)))
   simp only[List.map,lj,z_t] at he;simp only[he]
   refine jpkf (fin _ ?_)
   simp at h1 h2
   simp[shapeOk,h1];omega
 ·refine jcut (jpkf (jft (jend λe he=>?_)))
  simp only[List.map,lj,z_t] at he;simp only[he]
  refine jcut (jpkf (jft (jend λe he=>?_)))
  simp only[List.map,lj,z_t] at he;simp only[he]
  refine jpkf (fin _ ?_)
  simp at h1
  simp[shapeOk];omega
theorem p_ShapeOk (s:Shp):Pu F_s_ShapeOk [eSh s] (.bool (shapeOk s)):=λR=>s_s_ShapeOk λF=>q_ShapeOk s R F
theorem shapeOk_iff {s:Shp}:shapeOk s = true↔0≤s.refs∧s.refs≤4∧0≤s.nums∧s.nums≤4:=by simp[shapeOk,and_assoc]
theorem p_ShapeWord (s:Shp):Pu F_s_ShapeWord [eSh s] (I (shapeWord s)):=by
 intro R
 refine s_s_ShapeWord λF=>?_
 unfold c_s_ShapeWord
 refine ja λb=>jla (l:=[I s.refs,I s.nums]) (by simp) rfl (jp (p_ShapeOk s) ?_)
 refine jif (λh=>?_) (λh=>?_)
 ·refine jret (A:=[]) (RM.le.refl _) ?_
  simp only[Bool.not_eq_true'] at h
  simp[shapeWord,h]
 ·simp only[Bool.not_eq_false'] at h
  obtain⟨h0,h1,h2,h3⟩:=shapeOk_iff.1 h
  refine jl rfl ?_
  refine jmul ⟨by omega,by omega⟩ ?_
  refine jl rfl ?_
  refine jadd ⟨by omega,by omega⟩ ?_
  refine jret (A:=[]) (RM.le.refl _) ?_
  simp[shapeWord,h]
theorem p_ShapeSize (s:Shp):Pu F_s_ShapeSize [eSh s] (I (shapeSize s)):=by
 intro R
 refine s_s_ShapeSize λF=>?_
 unfold c_s_ShapeSize
 refine ja λb=>jla (l:=[I s.refs,I s.nums]) (by simp) rfl (jp (p_ShapeOk s) ?_)
 refine jif (λh=>?_) (λh=>?_)
 ·refine jret (A:=[]) (RM.le.refl _) ?_
  simp only[Bool.not_eq_true'] at h
  simp[shapeSize,h]
 ·simp only[Bool.not_eq_false'] at h
  obtain⟨h0,h1,h2,h3⟩:=shapeOk_iff.1 h
  refine jl rfl ?_
  refine jadd ⟨by omega,by omega⟩ ?_
  refine jl rfl ?_
  refine jadd ⟨by omega,by omega⟩ ?_
  refine jret (A:=[]) (RM.le.refl _) ?_
  simp[shapeSize,h]
theorem jdrop {R:RM} {c:Nat × Obj} {D:Chs} {m:M} (H:J R D m):J R (c :: D) m:=λh hs=>H h (St.drop (A:=[c]) hs)
theorem p_ShapeOf (w:Int):Pu F_s_ShapeOf [I w] (.tuple #[eSh (shapeOf w).1,.bool (shapeOf w).2]):=by
 intro R
 refine s_s_ShapeOf λF=>?_
 unfold c_s_ShapeOf
 refine ja λb=>?_
 refine jcut (jcut ?_)
 refine jlp (λn vs R' D'=>R' = R∧D' = (b,C T_Shape [I 0,I 0]) :: ([] ++ F)∧∃r:Nat,r≤5∧vs = [I w,.pointer (some ⟨b,0,none⟩),I r]∧n = 5 - r∧∀r' n' : Nat,r' < r→n'≤4→(16 * r' + n' : Int)≠w)
  (n:=5) ⟨rfl,rfl,0,by omega,rfl,rfl,λr' n' h=>by omega⟩ ?_
 rintro n e R' D' K ⟨rfl,rfl,r,hr,he,hn,hall⟩ hK
 simp only[List.map,lj,z_t] at he
 simp only[he]
 refine jle ?_
 refine jif (λhc=>?_) (λhc=>?_)
 ·have hc:=z_f hc
  refine jcut (jcut (jcut ?_))
  refine jlp (λm vs R2 D'=>R2 = R'∧D' = (b,C T_Shape [I 0,I 0]) :: ([] ++ F)∧∃k:Nat,k≤5∧vs = [I w,.pointer (some ⟨b,0,none⟩),I r,I k]∧m = 5 - k∧∀n' : Nat,n' < k→(16 * r + n' : Int)≠w)
   (n:=5) ⟨rfl,rfl,0,by omega,rfl,rfl,λn' h=>by omega⟩ ?_
  rintro m e R' D' K' ⟨rfl,rfl,k,hk,he,hm,hall'⟩ hK'
  simp only[List.map,lj,z_t] at he
  simp only[he]
  refine jle ?_
  refine jif (λhd=>?_) (λhd=>?_)
  ·have hd:=z_f hd
   refine jbd (cs:=[I r,I k]) rfl rfl ?_
   refine ja λb'=>?_
   refine js (cs':=[I r,I k]) rfl rfl (by simp) rfl ?_
   refine jla (l:=[I r,I k]) (by simp) rfl (jp (p_ShapeWord ⟨r,k⟩) ?_)
   refine jeq ?_
   have hok:shapeOk ⟨r,k⟩ = true:=shapeOk_iff.2 ⟨by simp only[];omega,by simp only[];omega,by simp only[];omega,by simp only[];omega⟩
   have hsw:shapeWord ⟨r,k⟩ = 16 * r + k:=by simp[shapeWord,hok]
   refine jif (λhw=>?_) (λhw=>?_)
   ·have hw:(16 * r + k:Int) = w:=by rw[← hsw];exact eq_of_beq hw
    refine jla (l:=[I r,I k]) (by simp) rfl ?_
    refine js (cs':=[I r,I k]) rfl rfl (by simp) rfl ?_
    refine jla (l:=[I r,I k]) (by simp) rfl ?_
    refine jret (A:=[]) (RM.le.refl _) ?_
    have e1:w / 16 = r:=by omega
    have e2:w % 16 = k:=by omega
    have:shapeOf w = (⟨r,k⟩,true):=by
     rw[shapeOf,if_pos (by omega),e1,e2]
    rw[this]
   ·have hw:(16 * r + k:Int)≠w:=by rw[← hsw];intro hh;rw[hh] at hw;simp at hw
    refine jadd ⟨by omega,by omega⟩ ?_
    refine jdrop ?_
    refine hK' (5 - (k + 1)) _ _ _ (by omega) ⟨rfl,rfl,k + 1,by omega,by simp,rfl,λn' h=>?_⟩
    by_cases h' : n' = k
    ·subst h';exact hw
    ·exact hall' n' (by omega)
  ·have hd:=z_g hd
   refine jend λe he=>?_
   simp only[List.map,lj,z_t] at he
   simp only[he]
   refine jend λe he=>?_
   simp only[List.map,lj,z_t] at he
   simp only[he]
   refine jend λe he=>?_
   simp only[List.map,lj,z_t] at he
   simp only[he]
   refine jadd ⟨by omega,by omega⟩ ?_
   refine hK (5 - (r + 1)) _ _ _ (by omega) ⟨rfl,rfl,r + 1,by omega,by simp,rfl,λr' n' h h2=>?_⟩
   by_cases h' : r' = r
   ·subst h';exact hall' n' (by omega)
   ·exact hall r' n' (by omega) h2
 ·have hc:=z_g hc
  refine jend λe he=>?_
  simp only[List.map,lj,z_t] at he
  simp only[he]
  refine jend λe he=>?_
  simp only[List.map,lj,z_t] at he
  simp only[he]
  refine jbd (cs:=[I 0,I 0]) rfl rfl ?_
  refine js (cs':=[I 0,I 0]) rfl rfl (by simp) rfl ?_
  refine jla (l:=[I 0,I 0]) (by simp) rfl ?_
  refine jret (A:=[]) (RM.le.refl _) ?_
  have:shapeOf w = (shp0,false):=by
   rw[shapeOf,if_neg]
   intro hh
   exact hall (w / 16).toNat (w % 16).toNat (by omega) (by omega) (by omega)
  rw[this];rfl
end Go.Lf
end
section
namespace Go.Lf
open Go Sm
theorem t_read {p:Nat} {S S' : Sim} {g:Img} {a v:Int} {R:RM} (hok:Ok R S g) (hS:S.read a = some (v,S')):Fn P F_Sim_read [.pointer (some ⟨p,0,none⟩),I a] R (simD p S g) (SimQ p S' (· = I v)):=by
 refine s_Sim_read λF=>?_
 unfold c_Sim_read
 simp only[Sim.read] at hS
 split at hS
 ·rename_i v' hv
  simp only[Option.some.injEq,Prod.mk.injEq] at hS
  obtain⟨rfl,rfl⟩:=hS
  obtain⟨h0,h1,h2,h3⟩:=idx_some hv
  refine jss { S with used:=true } g rfl rfl (by decide) (by rfl) (by rfl) ?_
  refine jl rfl ?_
  refine jia h0 h1 ?_
  refine jl (by rw[Nat.zero_add,Nat.mul_one];exact ints_get h2) ?_
  exact jretS (RM.le.refl R) (by rw[← h3]) rfl { hok with }
 ·cases hS
theorem t_write {p:Nat} {S S' : Sim} {g:Img} {a v:Int} {R:RM} (hok:Ok R S g) (hS:S.write a v = some S'):Fn P F_Sim_write [.pointer (some ⟨p,0,none⟩),I a,I v] R (simD p S g) (SimQ p S' λ_=>True):=by
 refine s_Sim_write λF=>?_
 unfold c_Sim_write
 simp only[Sim.write] at hS
 split at hS
 ·rename_i hv
  simp only[Option.some.injEq] at hS
  subst hS
  refine jss { S with used:=true } g rfl rfl (by decide) (by rfl) (by rfl) ?_
  refine jl rfl ?_
  refine jia hv.1 hv.2 ?_
  rw[Nat.zero_add,Nat.mul_one]
  refine jsw (p:=p) { S with used:=true,words:=seti S.words a v } (by show a.toNat < S.words.length;omega) (by rfl) ?_
  exact jretS (RM.le.refl R) trivial rfl { hok with wl:=by simpa [seti] using hok.wl,wk:=by simpa [seti] using hok.wk }
 ·cases hS
theorem t_from {p:Nat} {S:Sim} {g:Img} {a:Int} {b:Bool} {R:RM} (hok:Ok R S g) (hS:S.from_ a = some b):Fn P F_Sim_from [.pointer (some ⟨p,0,none⟩),I a] R (simD p S g) (SimQ p S (· = .bool b)):=by
 refine s_Sim_from λF=>?_
 unfold c_Sim_from
 simp only[Sim.from_] at hS
 refine jcut (jcut (jne (jgtt (λh=>?_) (λh=>?_))))
 ·have ha:a≠0:=by simpa using h
  rw[if_neg ha] at hS
  split at hS
  ·rename_i x hx
   obtain⟨h0,h1,h2,h3⟩:=idx_some hx
   have hl:=hok.tl
   cases hS
   refine jl rfl (jend λe he=>?_)
   simp only[List.map,lj,z_t,h] at he
   simp only[he]
   refine jtt (jp (p_RegionOf a (by omega)) ?_)
   refine jia h0 h1 ?_
   refine jl (o:=0 + (regionOf a).toNat * 5 + 0) (v:=I x.kind) ?_ (jeq (jpkt (jand (jl rfl jev) (jend λe he=>?_))))
   ·have:=rowsE_get (f:=eRg) (w:=5) (λ_=>rfl) (sp:=g.tsp) h2
    rw[h3] at this
    have e2:=congrArg (λl=>l[0]?) this
    simp only[List.getElem?_take,List.getElem?_drop] at e2
    simpa using e2
   ·simp only[List.map,lj,z_t] at he
    simp only[he]
    exact jretS (RM.le.refl R) rfl rfl hok
  ·cases hS
 ·have ha:a = 0:=by simpa using h
  rw[if_pos ha] at hS
  cases hS
  refine jend λe he=>?_
  simp only[List.map,lj,z_t,h] at he
  simp only[he]
  refine jft (jpkf (jand jev (jend λe he=>?_)))
  simp only[List.map,lj,z_t] at he
  simp only[he]
  exact jretS (RM.le.refl R) rfl rfl hok
theorem Fz.reads {R:RM} {D:Chs} {v:Value} {w n:Nat} {cells:List Value} (H:Fz R v w n cells):∃a cap,v = .slice a n cap∧Reads R D a (n * w) cells:=by
 rcases H with ⟨h1,h2,h3⟩ | ⟨b,o,cap,t,cs,h1,h2,h3,h4,h5⟩
 ·subst h1 h2 h3;exact⟨none,0,rfl,by rw[Nat.zero_mul];exact Reads.none_⟩
 ·exact⟨_,cap,h1,by rw[← h4];exact Reads.frozen h2 h3⟩
def OwnI (l:List Int) (v:Value) (A:Chs):Prop:=∃b c sp,l.length≤c∧sp.length = c - l.length∧v = .slice (some ⟨b,0,none⟩) l.length c∧A = [(b,C T_int (l.map I ++ sp))]
theorem t_l5Ints {v:Value} {l:List Int} {R:RM} (h:Ints R v l) (hl:l.length < 1000000):Fn P F_s_l5Ints [v] R [] (λv' _ A=>OwnI l v' A):=by
 refine s_s_l5Ints λF=>?_
 unfold c_s_l5Ints
 obtain⟨a,cap,rfl,hr⟩:=Fz.reads (D:=[]) h
 refine jbs (cs:=[]) rfl rfl λb=>?_
 refine jap0 (new:=l.map I) ?_ (by decide) (by omega) (λ_=>rfl) (λh0=>?_) (λb' c hc=>?_)
 ·intro h' hs'
  exact hr h' (St.drop (A:=(b,C 3 []) :: ([] ++ F)) (by simpa using hs'))
 ·have hl0:l = []:=List.length_eq_zero_iff.1 h0
  refine jret (RM.le.refl R) (A:=[(b,C T_int [])]) ⟨b,0,[],by simp[hl0],by simp,by simp[hl0],by simp[hl0]⟩
 ·refine jret (RM.le.refl R) (A:=[(b',C T_int (l.map I ++ (List.replicate (c - l.length) (cl z3)).flatten))]) ⟨b',c,_,hc,?_,rfl,rfl⟩
  rw[flat_len (w:=1) (by intro x hx;rw[(List.mem_replicate.1 hx).2];rfl)];simp
end Go.Lf
end
section
namespace Go.Lf
open Go Sm
theorem jpart {R:RM} {D E G:Chs} {m:M} (A:Chs) [s:Sp D A E] [x:Sf E G] (H:J R (A ++ G) m):J R D m:=by
 intro h hs
 obtain⟨X,hX⟩:=x.p
 have h1:=hs.perm s.p
 subst hX
 have:St h R (X ++ (A ++ G)):=h1.perm (by
  rw[← List.append_assoc,← List.append_assoc]
  exact List.Perm.append_right G List.perm_append_comm)
 exact H h this.drop
theorem rowsE_snoc {α:Type} (f:α→List Value) (l:List α) (x:α):rowsE f (l ++ [x]) = rowsE f l ++ f x:=by simp[rowsE]
theorem jperm {R:RM} {D D' : Chs} {m:M} (hp:D.Perm D') (H:J R D' m):J R D m:=λh hs=>H h (hs.perm hp)
theorem jev_new {R:RM} {D G:Chs} {p b c:Nat} {S:Sim} {g:Img} {evs:List Ev} {sp:List Value} {m:M} [w:Fd D p S g G]
  (H:J R (simD p { S with ev:=evs } { g with ev:=some (b,c),esp:=sp } ++ G) m) :
  J R ((b,C T_Event (rowsE eEv evs ++ sp)) :: D) (ST 1 (.pointer (some ⟨p,33,none⟩)) (.slice (some ⟨b,0,none⟩) evs.length c) m):=by
 refine jperm ((w.ex.cons _).trans List.perm_middle.symm) ?_
 refine js (D:=simD p S g ++ (b,C T_Event (rowsE eEv evs ++ sp)) :: G) (t:=T_l8Sim) (cs:=eSim S g) (cs':=eSim { S with ev:=evs } { g with ev:=some (b,c),esp:=sp }) (D':=(p,C T_l8Sim (eSim { S with ev:=evs } { g with ev:=some (b,c),esp:=sp })) :: ((g.wb,C T_int (S.words.map I ++ g.wsp)) :: (g.tb,C T_Region (rowsE eRg S.table ++ g.tsp)) :: (g.mb,C T_bool (S.marks.map Value.bool ++ g.msp)) :: (g.hb,C T_l8Thread (eThs S.th g.rv ++ g.hsp)) :: evD S g ++ (b,C T_Event (rowsE eEv evs ++ sp)) :: G)) rfl rfl (by simp[eSim]) rfl ?_ (u:=?_)
 rotate_left
 ·refine jpart [(p,C T_l8Sim (eSim { S with ev:=evs } { g with ev:=some (b,c),esp:=sp })),(g.wb,C T_int (S.words.map I ++ g.wsp)),(g.tb,C T_Region (rowsE eRg S.table ++ g.tsp)),(g.mb,C T_bool (S.marks.map Value.bool ++ g.msp)),(g.hb,C T_l8Thread (eThs S.th g.rv ++ g.hsp)),(b,C T_Event (rowsE eEv evs ++ sp))] (G:=G) ?_
  exact H
 ·unfold simD
  exact inferInstance
theorem jev_app {R:RM} {D G:Chs} {p:Nat} {S:Sim} {g:Img} {e:Ev} {cx:Nat} {xa:Option Addr} {zs:List Value} {m:M} (hz:zs.length = 4) [w:Fd D p S g G] (hok:Ok R S g) (hl:S.ev.length < 1000000) (hx:Reads R D xa (1 * 4) (eEv e))
  (H:∀g',Ok R { S with ev:=S.ev ++ [e] } g'→J R (simD p { S with ev:=S.ev ++ [e] } g' ++ G) m) :
  J R D (AP T_Event 4 32 zs (evV S g) (.slice xa 1 cx) λx=>ST 1 (.pointer (some ⟨p,33,none⟩)) x m):=by
 have spl:∀c,(List.replicate (c - (S.ev.length + 1)) zs).flatten.length = (c - (S.ev.length + 1)) * 4:=λc=>by
  rw[flat_len (w:=4) (by intro x hx;rw[(List.mem_replicate.1 hx).2,hz])];simp
 have okn:∀b c sp,S.ev.length + 1≤c→sp.length = (c - (S.ev.length + 1)) * 4→Ok R { S with ev:=S.ev ++ [e] } { g with ev:=some (b,c),esp:=sp }:=λb c sp h1 h2=>
  { hok with ev0:=(by intro h;cases h),ev1:=(by intro b' c' h;cases h;simp;exact⟨h1,h2⟩) }
 have nxt:∀b c,S.ev.length + 1≤c→J R ((b,C T_Event (rowsE eEv S.ev ++ eEv e ++ (List.replicate (c - (S.ev.length + 1)) zs).flatten)) :: D) (ST 1 (.pointer (some ⟨p,33,none⟩)) (.slice (some ⟨b,0,none⟩) (S.ev.length + 1) c) m):=λb c hc=>by
  have:=jev_new (D:=D) (p:=p) (b:=b) (c:=c) (evs:=S.ev ++ [e]) (sp:=(List.replicate (c - (S.ev.length + 1)) zs).flatten) (H _ (okn b c _ hc (spl c)))
  rw[rowsE_snoc] at this
  simpa using this
 cases hg:g.ev with
 | none=>
  have h0:=hok.ev0 hg
  simp only[evV,hg]
  refine jap hx (sl:=0) (old:=[]) (by rw[Nat.zero_mul];exact Reads.none_) (by decide) (by omega) (λh=>by omega) (λb c hc=>?_)
  have:=nxt b c (by rw[h0];simpa using hc)
  rw[h0] at this
  simpa [rowsE] using this
 | some bc=>
  obtain⟨b,c⟩:=bc
  obtain⟨hn,he⟩:=hok.ev1 b c hg
  have e1:simD p S g = (p,C T_l8Sim (eSim S g)) :: (g.wb,C T_int (S.words.map I ++ g.wsp)) :: (g.tb,C T_Region (rowsE eRg S.table ++ g.tsp)) :: (g.mb,C T_bool (S.marks.map Value.bool ++ g.msp)) :: (g.hb,C T_l8Thread (eThs S.th g.rv ++ g.hsp)) :: (b,C T_Event (rowsE eEv S.ev ++ g.esp)) :: []:=by
   simp[simD,evD,hg]
  have hsz:=rowsE_size (f:=eEv) (w:=4) (λ_=>rfl) S.ev
  have hD:D.Perm ((b,C T_Event (rowsE eEv S.ev ++ g.esp)) :: ((p,C T_l8Sim (eSim S g)) :: (g.wb,C T_int (S.words.map I ++ g.wsp)) :: (g.tb,C T_Region (rowsE eRg S.table ++ g.tsp)) :: (g.mb,C T_bool (S.marks.map Value.bool ++ g.msp)) :: (g.hb,C T_l8Thread (eThs S.th g.rv ++ g.hsp)) :: G)):=by
   refine w.ex.trans ?_
   rw[e1]
   simp only[lc,ln]
   exact (inferInstance:Tk _ b _ _).p
  simp only[evV,hg]
  refine japh (E:=_) (tk:=⟨hD⟩) hx ?_ hn rfl rfl (by decide) (by omega) (λhc=>?_) (λb' c' hc=>?_)
  ·rw[List.length_append,hsz,he,← Nat.add_mul];congr 1;omega
  ·have el:lay (rowsE eEv S.ev ++ g.esp) (S.ev.length * 4) (eEv e) = rowsE eEv (S.ev ++ [e]) ++ g.esp.drop 4:=by
    rw[lay_app (by omega),hsz,Nat.sub_self,rowsE_snoc,List.append_assoc]
    simp[lay]
   rw[el]
   have H':=H { g with esp:=g.esp.drop 4 } { hok with ev0:=(by intro h;exact absurd (hg.symm.trans h) (by simp)),ev1:=(by
    intro b' c' h
    have h2:some (b,c) = some (b',c'):=hg.symm.trans h
    cases h2
    simp only[List.length_append,List.length_singleton,List.length_drop]
    omega) }
   have e2:eSim { S with ev:=S.ev ++ [e] } { g with esp:=g.esp.drop 4 } = (eSim S g).set 33 (.slice (some ⟨b,0,none⟩) (S.ev.length + 1) c):=by
    simp[eSim,evV,hg]
   have e3:simD p { S with ev:=S.ev ++ [e] } { g with esp:=g.esp.drop 4 } = (p,C T_l8Sim ((eSim S g).set 33 (.slice (some ⟨b,0,none⟩) (S.ev.length + 1) c))) :: (g.wb,C T_int (S.words.map I ++ g.wsp)) :: (g.tb,C T_Region (rowsE eRg S.table ++ g.tsp)) :: (g.mb,C T_bool (S.marks.map Value.bool ++ g.msp)) :: (g.hb,C T_l8Thread (eThs S.th g.rv ++ g.hsp)) :: (b,C T_Event (rowsE eEv (S.ev ++ [e]) ++ g.esp.drop 4)) :: []:=by
    rw[← e2];simp[simD,evD,hg]
   rw[e3] at H'
   refine js (t:=T_l8Sim) (cs:=eSim S g) (cs':=(eSim S g).set 33 (.slice (some ⟨b,0,none⟩) (S.ev.length + 1) c)) rfl rfl (by simp[eSim]) (lay_one (by simp[eSim])) ?_
   exact jpart _ H'
  ·have:=nxt b' c' hc
   rw[List.take_append_of_le_length (by omega),List.take_of_length_le (by omega)]
   exact this
end Go.Lf
end
section
namespace Go.Lf
open Go Sm
theorem Fz.flat {R:RM} {v:Value} {w n:Nat} {cells:List Value} (H:Fz R v w n cells):flat v = true:=by
 rcases H with ⟨h1,_,_⟩ | ⟨b,o,cap,t,cs,h1,_⟩<;>subst h1<;>rfl
theorem plus_some {a b c:Int} (h:plus a b = some c):c = a + b∧inR (a + b):=by
 unfold plus at h
 split at h
 ·cases h;exact⟨rfl,by assumption⟩
 ·cases h
theorem sz_ev {S:Sim} (h:S.sz = true):S.ev.length < 1000000∧S.old.length < 1000000∧S.col.stack.length < 1000000∧S.pins.length < 1000000∧∀t∈S.th,t.roots.length < 1000000:=by
 simp only[Sim.sz,z_b,z_d,List.all_eq_true] at h
 exact⟨h.1.1.1.1,h.1.1.1.2,h.1.1.2,h.1.2,h.2⟩
theorem t_event {p:Nat} {S S' : Sim} {g:Img} {i ans code:Int} {R:RM} (hok:Ok R S g) (hS:S.event i ans code = some S') :
  Fn P F_Sim_event [.pointer (some ⟨p,0,none⟩),I i,I ans,I code] R (simD p S g) (SimQ p S' λ_=>True):=by
 refine s_Sim_event λF=>?_
 unfold c_Sim_event
 simp only[Sim.event] at hS
 split at hS
 ·cases hS
 rename_i hsz
 simp only[Bool.not_eq_true,Bool.not_eq_false'] at hsz
 have hsz:=sz_ev hsz
 split at hS
 ·rename_i t ht
  obtain⟨h0,h1,h2,h3⟩:=idx_some ht
  split at hS
  ·rename_i n hn
   obtain⟨rfl,hin⟩:=plus_some hn
   cases hS
   have hr:=hok.rvl
   have h2' : i.toNat < g.rv.length:=by omega
   have hv:=hok.rv i.toNat h2 h2'
   rw[h3] at hv
   obtain⟨xa,cap,hve,-⟩:=Fz.reads (D:=[]) hv
   rw[hve] at hv
   refine jl rfl ?_
   refine jia h0 h1 ?_
   refine jlt_ (p:=p) h2 hr ?_
   rw[h3,hve]
   refine ja λb=>?_
   refine js (cs':=eThr t (.slice xa t.roots.length cap)) rfl rfl (by simp) rfl ?_
   refine jl rfl ?_
   refine jl rfl ?_
   refine jbd (cs:=eEv ⟨i,t.next,ans,code⟩) rfl rfl ?_
   refine jbs (cs:=eEv ⟨i,t.next,ans,code⟩) rfl rfl λb1=>?_
   refine jand (jl rfl jev) ?_
   refine jev_app (p:=p) (e:=⟨i,t.next,ans,code⟩) rfl hok hsz.1 (Reads.held (t:=T_Event) (cs:=eEv ⟨i,t.next,ans,code⟩) (o:=0) (n:=1 * 4) (z_n 4)) λg' hok'=>?_
   have hr':=hok'.rvl
   refine jl rfl ?_
   refine jl rfl ?_
   refine jl rfl ?_
   refine jadd hin ?_
   refine jbd (cs:=eThr (thr0 t.roots (t.next + 1) 0) (.slice xa t.roots.length cap)) rfl rfl ?_
   refine jia h0 h1 ?_
   refine jst (p:=p) { S with ev:=S.ev ++ [⟨i,t.next,ans,code⟩],th:=seti S.th i (thr0 t.roots (t.next + 1) 0) } { g' with rv:=g'.rv.set i.toNat (.slice xa t.roots.length cap) } (by exact h2) (by exact hr') rfl (by rfl) (by rfl) ?_
   exact jretS (RM.le.refl R) trivial rfl (hok'.setT hv)
  ·cases hS
 ·cases hS
theorem t_back {p:Nat} {S S' : Sim} {g:Img} {i:Int} {R:RM} (hok:Ok R S g) (hS:S.back i = some S') :
  Fn P F_Sim_back [.pointer (some ⟨p,0,none⟩),I i] R (simD p S g) (SimQ p S' λ_=>True):=by
 refine s_Sim_back λF=>?_
 unfold c_Sim_back
 simp only[Sim.back] at hS
 split at hS
 ·rename_i t ht
  obtain⟨h0,h1,h2,h3⟩:=idx_some ht
  cases hS
  have hr:=hok.rvl
  have h2' : i.toNat < g.rv.length:=by omega
  have hv:=hok.rv i.toNat h2 h2'
  rw[h3] at hv
  obtain⟨xa,cap,hve,-⟩:=Fz.reads (D:=[]) hv
  rw[hve] at hv
  refine jl rfl ?_
  refine jia h0 h1 ?_
  refine jlt_ (p:=p) h2 hr ?_
  rw[h3,hve]
  refine ja λb=>?_
  refine js (cs':=eThr t (.slice xa t.roots.length cap)) rfl rfl (by simp) rfl ?_
  refine jl rfl ?_
  refine jl rfl ?_
  refine jl rfl ?_
  refine jbd (cs:=eThr (thr0 t.roots t.next 1) (.slice xa t.roots.length cap)) rfl rfl ?_
  refine jia h0 h1 ?_
  refine jst (p:=p) { S with th:=seti S.th i (thr0 t.roots t.next 1) } { g with rv:=g.rv.set i.toNat (.slice xa t.roots.length cap) } (by exact h2) (by exact hr) rfl (by rfl) (by rfl) ?_
  refine jss { S with th:=seti S.th i (thr0 t.roots t.next 1),full:=true } { g with rv:=g.rv.set i.toNat (.slice xa t.roots.length cap) } rfl rfl (by decide) (by rfl) (by rfl) ?_
  refine jss { S with th:=seti S.th i (thr0 t.roots t.next 1),full:=true,stop:=true } { g with rv:=g.rv.set i.toNat (.slice xa t.roots.length cap) } rfl rfl (by decide) (by rfl) (by rfl) ?_
  exact jretS (RM.le.refl R) trivial rfl { hok.setT (i:=i.toNat) (t:=thr0 t.roots t.next 1) hv with }
 ·cases hS
section rows
variable {R:RM} {D G:Chs} {p:Nat} {S:Sim} {g:Img} {m:M} {k:Value→M}
theorem jlr_ {i:Nat} [w:Fd D p S g G] (hi:i < S.table.length) (H:J R D (k (.agg (eRg (S.table[i])).toArray))):J R D (LA 5 (.pointer (some ⟨g.tb,0 + i * 5,none⟩)) k):=by
 intro h hs
 rw[Nat.zero_add]
 refine jla (R:=R) (D:=simD p S g ++ G) (t:=T_Region) (cs:=rowsE eRg S.table ++ g.tsp) (k:=λv h=>k v h) ?_ (rowsE_get (f:=eRg) (w:=5) (λ_=>rfl) hi) (λh' hs'=>H h' (hs'.perm w.ex.symm)) h (hs.perm w.ex)
 rw[List.length_append,rowsE_size (w:=5) (λ_=>rfl)];omega
theorem jsr_ {i:Nat} {x:Rg} (S' : Sim) [w:Fd D p S g G] (hi:i < S.table.length) (hS:S' = { S with table:=S.table.set i x }) (H:J R (simD p S' g ++ G) m):J R D (ST 5 (.pointer (some ⟨g.tb,0 + i * 5,none⟩)) (.agg (eRg x).toArray) m):=by
 subst hS
 intro h hs
 rw[Nat.zero_add]
 refine js (R:=R) (D:=simD p S g ++ G) (t:=T_Region) (cs:=rowsE eRg S.table ++ g.tsp) (cs':=rowsE eRg (S.table.set i x) ++ g.tsp) (D':=simD p { S with table:=S.table.set i x } g ++ G) rfl rfl ?_ (rowsE_set (f:=eRg) (w:=5) (λ_=>rfl) hi) H h (hs.perm w.ex) (u:=?_)
 ·show i * 5 + 5≤_
  rw[List.length_append,rowsE_size (w:=5) (λ_=>rfl)];omega
 ·have e1:eSim { S with table:=S.table.set i x } g = eSim S g:=by simp[eSim,evV]
  unfold simD evD
  rw[e1]
  exact inferInstance
end rows
theorem t_top {p:Nat} {S S' : Sim} {g:Img} {a size:Int} {R:RM} (hok:Ok R S g) (hS:S.top a size = some S') :
  Fn P F_Sim_top [.pointer (some ⟨p,0,none⟩),I a,I size] R (simD p S g) (SimQ p S' λ_=>True):=by
 refine s_Sim_top λF=>?_
 unfold c_Sim_top
 simp only[Sim.top] at hS
 split at hS
 ·rename_i x hx
  obtain⟨h0,h1,h2,h3⟩:=idx_some hx
  have hl:=hok.tl
  split at hS
  ·rename_i n hn
   obtain⟨rfl,hin⟩:=plus_some hn
   cases hS
   refine jp (p_RegionOf a (by omega)) ?_
   refine jl rfl ?_
   refine jia h0 h1 ?_
   refine jlr_ (p:=p) h2 ?_
   rw[h3]
   refine ja λb=>?_
   refine js (cs':=eRg x) rfl rfl (by simp) rfl ?_
   refine jadd hin ?_
   refine js (cs':=eRg { x with top:=a + size }) rfl rfl (by simp) rfl ?_
   refine jl rfl ?_
   refine jla (l:=eRg { x with top:=a + size }) (by simp) rfl ?_
   refine jia h0 h1 ?_
   refine jsr_ (p:=p) (x:={ x with top:=a + size }) { S with table:=seti S.table (regionOf a) { x with top:=a + size } } (by exact h2) (by rfl) ?_
   exact jretS (RM.le.refl R) trivial rfl { hok with tl:=by simpa [seti] using hok.tl,tk:=by simpa [seti] using hok.tk }
  ·cases hS
 ·cases hS
end Go.Lf
end
section
namespace Go.Lf
open Go Sm
theorem jap1 {R:RM} {D E:Chs} {l:List Int} {v:Int} {b c cx:Nat} {sp:List Value} {xa:Option Addr} {k:Value→M} [tk:Tk D b (C T_int (l.map I ++ sp)) E] (hc:l.length≤c) (hsp:sp.length = c - l.length) (hl:l.length < 1000000) (hx:Reads R D xa (1 * 1) [I v])
  (H:∀b' c' sp',l.length + 1≤c'→sp'.length = c' - (l.length + 1)→J R ((b',C T_int ((l ++ [v]).map I ++ sp')) :: E) (k (.slice (some ⟨b',0,none⟩) (l.length + 1) c'))) :
  J R D (AP T_int 1 8 [I 0] (.slice (some ⟨b,0,none⟩) l.length c) (.slice xa 1 cx) k):=by
 refine japh (tk:=tk) hx (by simp;omega) hc rfl rfl (by decide) (by omega) (λh=>?_) (λb' c' h=>?_)
 ·have el:lay (l.map I ++ sp) (l.length * 1) [I v] = (l ++ [v]).map I ++ sp.drop 1:=by
   rw[lay_app (by simp)];simp[lay]
  rw[el]
  exact H b c _ h (by simp;omega)
 ·refine jperm (tk.p.cons _) (jperm (List.Perm.swap _ _ _) (jdrop ?_))
  have:=H b' c' (List.replicate (c' - (l.length + 1)) [I 0]).flatten h (by rw[flat_len (w:=1) (by intro x hx;rw[(List.mem_replicate.1 hx).2];rfl)];simp)
  rw[List.take_append_of_le_length (by simp),List.take_of_length_le (by simp)]
  simpa using this
theorem ints_of {R:RM} {b c:Nat} {l:List Int} {sp:List Value} (h:R b = some (C T_int (l.map I ++ sp))) (hc:l.length≤c):Ints R (.slice (some ⟨b,0,none⟩) l.length c) l:=
 .inr ⟨b,0,c,_,_,rfl,h,by simp,by simp,hc⟩
theorem t_old {p:Nat} {S S' : Sim} {g:Img} {v:Int} {R:RM} (hok:Ok R S g) (hS:S.oldV v = some S') :
  Fn P F_Sim_old [.pointer (some ⟨p,0,none⟩),I v] R (simD p S g) (SimQ p S' λ_=>True):=by
 refine s_Sim_old λF=>?_
 unfold c_Sim_old
 simp only[Sim.oldV] at hS
 split at hS
 ·cases hS
 rename_i hsz
 simp only[Bool.not_eq_true,Bool.not_eq_false'] at hsz
 have hsz:=sz_ev hsz
 refine jcut (jl rfl (jeq (jgtt (λh=>?_) (λh=>?_))))
 ·have hph:S.phase = 1:=by simpa using h
  refine jne (jend λe he=>?_)
  simp only[List.map,lj,z_t,h] at he
  simp only[he]
  refine jpkt (jif (λh2=>?_) (λh2=>?_))
  ·have hv0:v≠0:=by simpa using h2
   rw[if_pos ⟨hph,hv0⟩] at hS
   cases hS
   refine jl rfl ?_
   refine jc (A:=[]) (t_l5Ints hok.old hsz.2.1) ?_
   rintro _ R' _ hR ⟨b,c,sp,hc,hsp,rfl,rfl⟩
   have hok':=hok.le hR
   refine jbs (cs:=[I v]) rfl rfl λb1=>?_
   refine jap1 (v:=v) hc hsp hsz.2.1 (Reads.held (t:=T_int) (cs:=[I v]) (o:=0) (n:=1 * 1) (z_n 1)) λb' c' sp' hc' hsp'=>?_
   refine jfreeze (b:=b') λR2 hR2 hb'=>?_
   refine jss { S with old:=S.old ++ [v] } { g with old:=.slice (some ⟨b',0,none⟩) (S.old.length + 1) c' } rfl rfl (by decide) (by rfl) (by rfl) ?_
   have hi:=ints_of (c:=c') hb' (by simpa using hc')
   rw[List.length_append,List.length_singleton] at hi
   exact jretS (hR.trans hR2) trivial rfl (by exact { hok'.le hR2 with old:=hi })
  ·have hv0:¬ v≠0:=by simpa using h2
   rw[if_neg (λhh=>hv0 hh.2)] at hS
   cases hS
   exact jretS (RM.le.refl R) trivial rfl hok
 ·have hph:S.phase≠1:=by simpa using h
  rw[if_neg (λhh=>hph hh.1)] at hS
  cases hS
  refine jend λe he=>?_
  simp only[List.map,lj,z_t,h] at he
  simp only[he]
  refine jpkf (jiff ?_)
  exact jretS (RM.le.refl R) trivial rfl hok
theorem jcS {R:RM} {D G:Chs} {p f:Nat} {S S' : Sim} {g:Img} {args:List Value} {r:Value→Prop} {k:Value→M} [w:Fd D p S g G] (hF:Fn P f args R (simD p S g) (SimQ p S' r))
  (H:∀v R' g',R.le R'→r v→Ok R' S' g'→J R' (simD p S' g' ++ G) (k v)):J R D (CA P f args k):=by
 refine jperm w.ex (jc hF ?_)
 rintro v R' _ hR ⟨hr,g',rfl,ho⟩
 exact H v R' g' hR hr ho
theorem t_push {p:Nat} {S S' : Sim} {g:Img} {i a:Int} {R:RM} (hok:Ok R S g) (hS:S.push i a = some S') :
  Fn P F_Sim_push [.pointer (some ⟨p,0,none⟩),I i,I a] R (simD p S g) (SimQ p S' λ_=>True):=by
 refine s_Sim_push λF=>?_
 unfold c_Sim_push
 simp only[Sim.push] at hS
 split at hS
 ·cases hS
 rename_i hsz
 simp only[Bool.not_eq_true,Bool.not_eq_false'] at hsz
 have hsz:=sz_ev hsz
 split at hS
 ·rename_i t ht
  obtain⟨h0,h1,h2,h3⟩:=idx_some ht
  have hr:=hok.rvl
  have h2' : i.toNat < g.rv.length:=by omega
  have hv:=hok.rv i.toNat h2 h2'
  rw[h3] at hv
  have hl:t.roots.length < 1000000:=hsz.2.2.2.2 t (by rw[← h3];exact List.getElem_mem h2)
  obtain⟨xa,cap,hve,-⟩:=Fz.reads (D:=[]) hv
  rw[hve] at hv
  refine jl rfl ?_
  refine jia h0 h1 ?_
  refine jlt_ (p:=p) h2 hr ?_
  rw[h3,hve]
  refine ja λb=>?_
  refine js (cs':=eThr t (.slice xa t.roots.length cap)) rfl rfl (by simp) rfl ?_
  refine jl rfl ?_
  refine jc (A:=[]) (t_l5Ints hv hl) ?_
  rintro _ R' _ hR ⟨b2,c,sp,hc,hsp,rfl,rfl⟩
  have hok':=hok.le hR
  refine jbs (cs:=[I a]) rfl rfl λb1=>?_
  refine jap1 (v:=a) hc hsp hl (Reads.held (t:=T_int) (cs:=[I a]) (o:=0) (n:=1 * 1) (z_n 1)) λb' c' sp' hc' hsp'=>?_
  refine jfreeze (b:=b') λR2 hR2 hb'=>?_
  have hi:=ints_of (c:=c') hb' (by simpa using hc')
  rw[List.length_append,List.length_singleton] at hi
  refine js (cs':=eThr { t with roots:=t.roots ++ [a] } (.slice (some ⟨b',0,none⟩) (t.roots.length + 1) c')) rfl rfl (by simp[eThr]) rfl ?_
  refine jl rfl ?_
  refine jla (l:=eThr { t with roots:=t.roots ++ [a] } (.slice (some ⟨b',0,none⟩) (t.roots.length + 1) c')) (by simp[eThr]) rfl ?_
  refine jia h0 h1 ?_
  refine jst (p:=p) { S with th:=seti S.th i { t with roots:=t.roots ++ [a] } } { g with rv:=g.rv.set i.toNat (.slice (some ⟨b',0,none⟩) (t.roots.length + 1) c') } (by exact h2) (by exact hr) rfl (by rfl) (by rfl) ?_
  refine jcS (p:=p) (by exact t_event ((hok'.le hR2).setT (i:=i.toNat) (t:={ t with roots:=t.roots ++ [a] }) hi) hS) λ_ R3 g3 hR3 _ hok3=>?_
  exact jretS ((hR.trans hR2).trans hR3) trivial rfl hok3
 ·cases hS
end Go.Lf
end
section
namespace Go.Lf
open Go Sm
theorem jopen {R:RM} {D G:Chs} {p:Nat} {S:Sim} {g:Img} {i:Int} {t:Thr} {z:Value} {k:Value→M} [w:Fd D p S g G] (hok:Ok R S g) (ht:idx S.th i = some t) (hz:(cl z).length = 17)
  (H:∀b a cap,Ints R (.slice a t.roots.length cap) t.roots→J R ((b,C T_l8Thread (eThr t (.slice a t.roots.length cap))) :: D) (k (.pointer (some ⟨b,0,none⟩)))) :
  J R D (L1 (.pointer (some ⟨p,17,none⟩)) λx3=>IA 17 x3 (I i) λx4=>LA 17 x4 λx5=>AL T_l8Thread z λx6=>ST 17 x6 x5 (k x6)):=by
 obtain⟨h0,h1,h2,h3⟩:=idx_some ht
 have hr:=hok.rvl
 have h2' : i.toNat < g.rv.length:=by omega
 have hv:=hok.rv i.toNat h2 h2'
 rw[h3] at hv
 obtain⟨xa,cap,hve,-⟩:=Fz.reads (D:=[]) hv
 rw[hve] at hv
 refine jperm w.ex ?_
 refine jl rfl ?_
 refine jia h0 h1 ?_
 refine jlt_ (p:=p) h2 hr ?_
 rw[h3,hve]
 refine ja λb=>?_
 refine js (cs':=eThr t (.slice xa t.roots.length cap)) rfl rfl (by rw[hz];exact z_n 17) ?_ ?_
 ·show lay (cl z) 0 (eThr t _) = _
  have:=lay_pre (a:=cl z) (b:=[]) (l:=eThr t (.slice xa t.roots.length cap)) (by rw[hz];rfl)
  simpa using this
 ·exact jperm (w.ex.symm.cons _) (H b xa cap hv)
theorem jput {R:RM} {D G:Chs} {p b:Nat} {S:Sim} {g:Img} {i:Int} {t:Thr} {v:Value} {m:M} (S' : Sim) [w:Fd D p S g G] [at_:At D b (C T_l8Thread (eThr t v))] (hok:Ok R S g) (h0:0≤i) (h1:i < S.th.length) (hv:Ints R v t.roots) (hS:S' = { S with th:=seti S.th i t })
  (H:∀g',Ok R S' g'→J R (simD p S' g' ++ G) m) :
  J R D (L1 (.pointer (some ⟨p,17,none⟩)) λx24=>LA 17 (.pointer (some ⟨b,0,none⟩)) λx25=>IA 17 x24 (I i) λx26=>ST 17 x26 x25 m):=by
 subst hS
 obtain⟨xa,cap,hve,-⟩:=Fz.reads (D:=[]) hv
 subst hve
 have hr:=hok.rvl
 have h2:i.toNat < S.th.length:=by omega
 intro h hs
 have hst:=hs.perm w.ex
 have hl:J R D (LA 17 (.pointer (some ⟨b,0,none⟩)) λx25=>IA 17 (.slice (some ⟨g.hb,0,none⟩) S.th.length g.hc) (I i) λx26=>ST 17 x26 x25 m):=by
  refine jla (cs:=eThr t (.slice xa t.roots.length cap)) (t:=T_l8Thread) (l:=eThr t (.slice xa t.roots.length cap)) (z_n 17) rfl ?_
  refine jia h0 h1 ?_
  refine jst (p:=p) { S with th:=seti S.th i t } { g with rv:=g.rv.set i.toNat (.slice xa t.roots.length cap) } (by exact h2) (by exact hr) rfl (by rfl) (by rfl) ?_
  exact H _ (hok.setT hv)
 have:J R (simD p S g ++ G) (L1 (.pointer (some ⟨p,17,none⟩)) λx24=>LA 17 (.pointer (some ⟨b,0,none⟩)) λx25=>IA 17 x24 (I i) λx26=>ST 17 x26 x25 m):=jl rfl (jperm w.ex.symm hl)
 exact this h hst
theorem p_l8Next (pc:Int) (h:inR (pc + 1)):Pu F_s_l8Next [I pc] (I (l8Next pc)):=by
 intro R
 refine s_s_l8Next λF=>?_
 unfold c_s_l8Next
 refine jeq (jif (λh1=>?_) (λh1=>?_))
 ·refine jret (A:=[]) (RM.le.refl R) ?_
  rw[l8Next,if_pos (by simpa using h1)]
 ·refine jeq (jif (λh2=>?_) (λh2=>jadd h ?_))
  ·refine jret (A:=[]) (RM.le.refl R) ?_
   rw[l8Next,if_neg (by simpa using h1),if_pos (by simpa using h2)]
  ·refine jret (A:=[]) (RM.le.refl R) ?_
   rw[l8Next,if_neg (by simpa using h1),if_neg (by simpa using h2)]
theorem p_l8Held (t:Thr) (a:Option Addr) (n c:Nat) (pc:Int):Pu F_s_l8Held [.agg (eThr t (.slice a n c)).toArray,I pc] (I (l8Held t pc)):=by
 intro R
 refine s_s_l8Held λF=>?_
 unfold c_s_l8Held
 refine ja λb=>?_
 have e:cl (.agg (eThr t (.slice a n c)).toArray) = eThr t (.slice a n c):=rfl
 rw[e]
 refine jeq (jif (λh1=>?_) (λh1=>?_))
 ·refine jl rfl (jret (A:=[]) (RM.le.refl R) ?_)
  rw[l8Held,if_pos (by simpa using h1)]
 ·refine jeq (jif (λh2=>?_) (λh2=>?_))
  ·refine jl rfl (jret (A:=[]) (RM.le.refl R) ?_)
   rw[l8Held,if_neg (by simpa using h1),if_pos (by simpa using h2)]
  ·refine jeq (jif (λh3=>?_) (λh3=>?_))
   ·refine jl rfl (jret (A:=[]) (RM.le.refl R) ?_)
    rw[l8Held,if_neg (by simpa using h1),if_neg (by simpa using h2),if_pos (by simpa using h3)]
   ·refine jl rfl (jret (A:=[]) (RM.le.refl R) ?_)
    rw[l8Held,if_neg (by simpa using h1),if_neg (by simpa using h2),if_neg (by simpa using h3)]
end Go.Lf
end
section
namespace Go.Lf
open Go Sm
theorem bind_some {α β:Type} {x:Option α} {f:α→Option β} {b:β} (h:(x >>= f) = some b):∃a,x = some a∧f a = some b:=by
 cases x with
 | none=>cases h
 | some a=>exact⟨a,rfl,h⟩
theorem t_load {p:Nat} {S S' : Sim} {g:Img} {i v:Int} {R:RM} (hok:Ok R S g) (hS:S.load i v = some S') :
  Fn P F_Sim_load [.pointer (some ⟨p,0,none⟩),I i,I v] R (simD p S g) (SimQ p S' λ_=>True):=by
 refine s_Sim_load λF=>?_
 unfold c_Sim_load
 obtain⟨t,ht,hS⟩:=bind_some hS
 obtain⟨h0,h1,h2,h3⟩:=idx_some ht
 refine jopen (p:=p) hok ht rfl λb a cap hv=>?_
 have rest:∀e:Env,e 0 = .pointer (some ⟨p,0,none⟩)→e 1 = I i→e 2 = I v→e 6 = .pointer (some ⟨b,0,none⟩)→¬ (t.pc = 12∧v = t.u)→J R ((b,C T_l8Thread (eThr t (.slice a t.roots.length cap))) :: (simD p S g ++ F)) (CA P F_Sim_from [(e 0),(e 2)] λx18=>NT x18 λx19=>IF x19 (CA P 86 [(e 0),(e 1),(e 2)] λx20=>POST R F (SimQ p S' λ_=>True) (.tuple #[])) (FO 7 (e 6) λx21=>ST 1 x21 (e 2)<|FO 8 (e 6) λx22=>ST 1 x22 (e 2)<|FO 3 (e 6) λx23=>ST 1 x23 (I 11)<|NC (e 0) λx24=>FO 17 x24 λx25=>L1 x25 λx26=>LA 17 (e 6) λx27=>IA 17 x26 (e 1) λx28=>ST 17 x28 x27<|POST R F (SimQ p S' λ_=>True) (.tuple #[]))):=by
  intro e e0 e1 e2 e6 hc
  simp only[e0,e1,e2,e6]
  rw[if_neg hc] at hS
  obtain⟨c,hf,hS⟩:=bind_some hS
  refine jcS (p:=p) (by exact t_from hok hf) λ_ R1 g1 hR1 hr ok1=>?_
  subst hr
  cases c with
  | false=>
   refine jift ?_
   refine jcS (p:=p) (by exact t_push ok1 hS) λ_ R2 g2 hR2 hr ok2=>?_
   exact jretS (hR1.trans hR2) trivial rfl ok2
  | true=>
   refine jiff ?_
   cases hS
   refine js (cs':=eThr { t with u:=v } (.slice a t.roots.length cap)) rfl rfl (by simp[eThr]) rfl ?_
   refine js (cs':=eThr { t with u:=v,v:=v } (.slice a t.roots.length cap)) rfl rfl (by simp[eThr]) rfl ?_
   refine js (cs':=eThr { t with u:=v,v:=v,pc:=11 } (.slice a t.roots.length cap)) rfl rfl (by simp[eThr]) rfl ?_
   refine jput (p:=p) (S.setT i { t with u:=v,v:=v,pc:=11 }) (by exact ok1) h0 (by exact h1) (by exact hv.le hR1) (by rfl) λg2 ok2=>?_
   exact jretS hR1 trivial rfl ok2
 refine jcut (jl rfl (jeq (jgtt (λhp=>jl rfl (jeq (jend λe he=>?_))) (λhp=>jend λe he=>?_))))
 ·simp only[List.map,lj,z_t,hp] at he
  obtain⟨e0,e1,e2,e6,e17,e21⟩:=he
  simp only[e17,e21]
  refine jpkt (jif (λhq=>?_) (λhq=>rest e e0 e1 e2 e6 λhh=>?_))
  ·have hc:t.pc = 12∧v = t.u:=⟨by simpa using hp,by simpa using hq⟩
   rw[if_pos hc] at hS
   simp only[e0,e1,e6]
   refine jl rfl ?_
   refine jcS (p:=p) (by exact t_push hok hS) λ_ R2 g2 hR2 hr ok2=>?_
   exact jretS hR2 trivial rfl ok2
  ·simp[hh.2] at hq
 ·simp only[List.map,lj,z_t,hp] at he
  obtain⟨e0,e1,e2,e6,e17,e21⟩:=he
  simp only[e17,e21]
  refine jpkf (jiff (rest e e0 e1 e2 e6 λhh=>?_))
  simp[hh.1] at hp
theorem t_swap {p:Nat} {S S' : Sim} {g:Img} {i v:Int} {R:RM} (hok:Ok R S g) (hS:S.swap i v = some S') :
  Fn P F_Sim_swap [.pointer (some ⟨p,0,none⟩),I i,I v] R (simD p S g) (SimQ p S' λ_=>True):=by
 refine s_Sim_swap λF=>?_
 unfold c_Sim_swap
 obtain⟨t,ht,hS⟩:=bind_some hS
 obtain⟨h0,h1,h2,h3⟩:=idx_some ht
 refine jopen (p:=p) hok ht rfl λb a cap hv=>?_
 refine jcutq (λvs R' D'=>R' = R∧D' = (b,C T_l8Thread (eThr t (.slice a t.roots.length cap))) :: (simD p S g ++ F)∧∃c u,vs = [.pointer (some ⟨p,0,none⟩),I i,I v,.pointer (some ⟨b,0,none⟩),c,u]∧∀k,PK c u (.bool false) k = k (.bool (t.pc == 16 && v == t.u))) (λK hK=>?_) ?_
 ·refine jl rfl (jeq (jgtt (λhp=>jl rfl (jeq (hK _ _ _ ⟨rfl,rfl,_,_,rfl,λk=>?_⟩))) (λhp=>hK _ _ _ ⟨rfl,rfl,_,_,rfl,λk=>?_⟩)))
  ·simp only[hp,PK,cond_true,Bool.true_and]
  ·simp only[hp,PK,cond_false,Bool.false_and]
 ·rintro e _ _ ⟨rfl,rfl,c,u,he,hpk⟩
  simp only[List.map,lj,z_t] at he
  obtain⟨e0,e1,e2,e6,e17,e21⟩:=he
  simp only[e0,e1,e2,e6,e17,e21]
  rw[hpk]
  refine jif (λhq=>?_) (λhc=>?_)
  ·simp only[z_b,beq_iff_eq] at hq
   rw[if_pos hq] at hS
   refine jcS (p:=p) (by exact t_event hok hS) λ_ R2 g2 hR2 hr ok2=>?_
   exact jretS hR2 trivial rfl ok2
  have hc:¬ (t.pc = 16∧v = t.u):=by simpa using hc
  rw[if_neg hc] at hS
  obtain⟨d,hf,hS⟩:=bind_some hS
  refine js (cs':=eThr { t with u:=v } (.slice a t.roots.length cap)) rfl rfl (by simp[eThr]) rfl ?_
  refine jcS (p:=p) (by exact t_from hok hf) λ_ R1 g1 hR1 hr ok1=>?_
  subst hr
  refine jif (λhd=>?_) (λhd=>?_)
  ·subst hd
   cases hS
   refine js (cs':=eThr { t with u:=v,v:=v } (.slice a t.roots.length cap)) rfl rfl (by simp[eThr]) rfl ?_
   refine js (cs':=eThr { t with u:=v,v:=v,pc:=15 } (.slice a t.roots.length cap)) rfl rfl (by simp[eThr]) rfl ?_
   refine jput (p:=p) (S.setT i { t with u:=v,v:=v,pc:=15 }) (by exact ok1) h0 (by exact h1) (by exact hv.le hR1) (by rfl) λg2 ok2=>?_
   exact jretS hR1 trivial rfl ok2
  ·subst hd
   refine jl rfl (jne (jif (λhg=>?_) (λhg=>?_)))
   ·have hg:v≠t.g:=by simpa using hg
    rw[if_neg (by decide),if_pos hg] at hS
    refine jcS (p:=p) (by exact t_event ok1 hS) λ_ R2 g2 hR2 hr ok2=>?_
    exact jretS (hR1.trans hR2) trivial rfl ok2
   ·have hg:¬ v≠t.g:=by simpa using hg
    rw[if_neg (by decide),if_neg hg] at hS
    obtain⟨S2,ho,hS⟩:=bind_some hS
    cases hS
    refine jcS (p:=p) (by exact t_old ok1 ho) λ_ R2 g2 hR2 hr ok2=>?_
    refine js (cs':=eThr { t with u:=v,pc:=14 } (.slice a t.roots.length cap)) rfl rfl (by simp[eThr]) rfl ?_
    have hth:S2.th = S.th:=by
     simp only[Sim.oldV] at ho
     split at ho
     ·cases ho
     ·cases ho;split<;>rfl
    refine jput (p:=p) (S2.setT i { t with u:=v,pc:=14 }) (by exact ok2) h0 (by rw[hth];exact h1) (by exact hv.le (hR1.trans hR2)) (by rfl) λg3 ok3=>?_
    exact jretS (hR1.trans hR2) trivial rfl ok3
end Go.Lf
end
section
namespace Go.Lf
open Go Sm
theorem p_l8Hold (t:Thr) (xa:Option Addr) (n c:Nat) (pc a:Int) (h:inR (pc + 1)):Pu F_s_l8Hold [.agg (eThr t (.slice xa n c)).toArray,I pc,I a] (.agg (eThr (l8Hold t pc a) (.slice xa n c)).toArray):=by
 intro R
 refine s_s_l8Hold λF=>?_
 unfold c_s_l8Hold
 refine ja λb=>ja λb2=>?_
 have e:cl (.agg (eThr t (.slice xa n c)).toArray) = eThr t (.slice xa n c):=rfl
 rw[e]
 refine jcutq (λvs R' D'=>R' = R∧D' = (b2,C T_l8Thread (cl z106)) :: (b,C T_l8Thread (eThr { l8Hold t pc a with pc:=t.pc } (.slice xa n c))) :: ([] ++ F)∧vs = [I pc,.pointer (some ⟨b,0,none⟩),.pointer (some ⟨b2,0,none⟩)]) (λK hK=>?_) ?_
 ·refine jcut ?_
  have fin:∀t1,t1 = { l8Hold t pc a with pc:=t.pc }→J R ((b2,C T_l8Thread (cl z106)) :: (b,C T_l8Thread (eThr t1 (.slice xa n c))) :: ([] ++ F)) (λh=>∀e:Env,List.map e [1,3,6] = [I pc,.pointer (some ⟨b,0,none⟩),.pointer (some ⟨b2,0,none⟩)]→K [(e 1),(e 3),(e 6)] h):=by
   rintro t1 rfl
   refine jend λe he=>?_
   simp only[List.map,lj,z_t] at he
   simp only[he]
   exact hK _ _ _ ⟨rfl,rfl,rfl⟩
  refine jeq (jif (λh1=>?_) (λh1=>?_))
  ·refine js (cs':=eThr { t with h:=a } (.slice xa n c)) rfl rfl (by simp[eThr]) rfl (fin _ ?_)
   rw[l8Hold,if_pos (by simpa using h1)]
  ·refine jeq (jif (λh2=>?_) (λh2=>?_))
   ·refine js (cs':=eThr { t with g:=a } (.slice xa n c)) rfl rfl (by simp[eThr]) rfl (fin _ ?_)
    rw[l8Hold,if_neg (by simpa using h1),if_pos (by simpa using h2)]
   ·refine jeq (jif (λh3=>?_) (λh3=>?_))
    ·refine js (cs':=eThr { t with k:=a } (.slice xa n c)) rfl rfl (by simp[eThr]) rfl (fin _ ?_)
     rw[l8Hold,if_neg (by simpa using h1),if_neg (by simpa using h2),if_pos (by simpa using h3)]
    ·refine js (cs':=eThr { t with v:=a } (.slice xa n c)) rfl rfl (by simp[eThr]) rfl (fin _ ?_)
     rw[l8Hold,if_neg (by simpa using h1),if_neg (by simpa using h2),if_neg (by simpa using h3)]
 ·rintro e _ _ ⟨rfl,rfl,he⟩
  simp only[List.map,lj,z_t] at he
  simp only[he]
  refine jp (p_l8Next pc h) ?_
  have hp:(l8Hold t pc a).pc = l8Next pc:=rfl
  refine js (cs':=eThr (l8Hold t pc a) (.slice xa n c)) rfl rfl (by simp[eThr]) rfl ?_
  refine jla (cs:=eThr (l8Hold t pc a) (.slice xa n c)) (t:=T_l8Thread) (l:=eThr (l8Hold t pc a) (.slice xa n c)) (z_n 17) rfl ?_
  refine js (cs':=eThr (l8Hold t pc a) (.slice xa n c)) rfl rfl (by exact z_n 17) rfl ?_
  refine jla (cs:=eThr (l8Hold t pc a) (.slice xa n c)) (t:=T_l8Thread) (l:=eThr (l8Hold t pc a) (.slice xa n c)) (z_n 17) rfl ?_
  exact jret (A:=[]) (RM.le.refl _) rfl
theorem t_resolve {p:Nat} {S S' : Sim} {g:Img} {i:Int} {R:RM} (hok:Ok R S g) (hS:S.resolve i = some S') :
  Fn P F_Sim_resolve [.pointer (some ⟨p,0,none⟩),I i] R (simD p S g) (SimQ p S' λ_=>True):=by
 refine s_Sim_resolve λF=>?_
 unfold c_Sim_resolve
 obtain⟨t,ht,hS⟩:=bind_some hS
 obtain⟨h0,h1,h2,h3⟩:=idx_some ht
 split at hS
 ·cases hS
 rename_i hpc
 have hpc:0≤t.pc∧t.pc≤100:=Classical.not_not.1 hpc
 have hin:inR (t.pc + 1):=⟨by omega,by omega⟩
 obtain⟨c,hf,hS⟩:=bind_some hS
 refine jopen (p:=p) hok ht rfl λb a cap hv=>?_
 refine jl rfl ?_
 refine jla (cs:=eThr t (.slice a t.roots.length cap)) (t:=T_l8Thread) (l:=eThr t (.slice a t.roots.length cap)) (z_n 17) rfl ?_
 refine jp (p_l8Held t a t.roots.length cap t.pc) ?_
 refine jcS (p:=p) (by exact t_from hok hf) λ_ R1 g1 hR1 hr ok1=>?_
 subst hr
 refine jif (λhc=>?_) (λhc=>?_)
 ·have hc:c = false:=by simpa using hc
  subst hc
  cases hS
  refine jp (p_l8Next t.pc hin) ?_
  refine js (cs':=eThr { t with pc:=l8Next t.pc } (.slice a t.roots.length cap)) rfl rfl (by simp[eThr]) rfl ?_
  refine jput (p:=p) (S.setT i { t with pc:=l8Next t.pc }) (by exact ok1) h0 (by exact h1) (by exact hv.le hR1) (by rfl) λg2 ok2=>?_
  exact jretS hR1 trivial rfl ok2
 ·have hc:c = true:=by simpa using hc
  subst hc
  obtain⟨⟨f,S1⟩,hrd,hS⟩:=bind_some hS
  dsimp only at hS
  have hS1:S1.th = S.th∧S1.phase = S.phase:=by
   simp only[Sim.read] at hrd
   split at hrd
   ·cases hrd;exact⟨rfl,rfl⟩
   ·cases hrd
  refine jcS (p:=p) (by exact t_read ok1 hrd) λ_ R2 g2 hR2 hr ok2=>?_
  subst hr
  refine jcutq (λvs R' D'=>R' = R2∧∃t',t'.roots = t.roots∧S' = S1.setT i t'∧D' = simD p S1 g2 ++ (b,C T_l8Thread (eThr t' (.slice a t.roots.length cap))) :: F∧vs = [.pointer (some ⟨p,0,none⟩),I i,.pointer (some ⟨b,0,none⟩)]) (λK hK=>?_) ?_
  ·refine jcutq (λvs R' D'=>R' = R2∧D' = simD p S1 g2 ++ (b,C T_l8Thread (eThr t (.slice a t.roots.length cap))) :: F∧∃c u,vs = [.pointer (some ⟨p,0,none⟩),I i,.pointer (some ⟨b,0,none⟩),I t.pc,I (l8Held t t.pc),I f,c,u]∧∀k,PK c u (.bool false) k = k (.bool (f == l8Held t t.pc && S.phase == 2))) (λK2 hK2=>?_) ?_
   ·refine jeq (jgtt (λhp=>jl rfl (jeq (hK2 _ _ _ ⟨rfl,rfl,_,_,rfl,λk=>?_⟩))) (λhp=>hK2 _ _ _ ⟨rfl,rfl,_,_,rfl,λk=>?_⟩))
    ·simp only[hp,PK,cond_true,Bool.true_and,hS1.2]
    ·simp only[hp,PK,cond_false,Bool.false_and]
   ·rintro e _ _ ⟨rfl,rfl,c,u,he,hpk⟩
    simp only[List.map,lj,z_t] at he
    obtain⟨e0,e1,e4,e5,e6,e7,e40,e46⟩:=he
    simp only[e0,e1,e4,e5,e6,e7,e40,e46]
    rw[hpk]
    refine jif (λhq=>?_) (λhq=>?_)
    ·simp only[z_b,beq_iff_eq] at hq
     rw[if_pos ⟨hq.1,by rw[hS1.2];exact hq.2⟩] at hS
     cases hS
     refine js (cs':=eThr { t with src:=l8Held t t.pc } (.slice a t.roots.length cap)) rfl rfl (by simp[eThr]) rfl ?_
     refine js (cs':=eThr { t with src:=l8Held t t.pc,ret:=t.pc } (.slice a t.roots.length cap)) rfl rfl (by simp[eThr]) rfl ?_
     refine js (cs':=eThr { t with src:=l8Held t t.pc,ret:=t.pc,pc:=20 } (.slice a t.roots.length cap)) rfl rfl (by simp[eThr]) rfl ?_
     exact hK _ _ _ ⟨rfl,{ t with src:=l8Held t t.pc,ret:=t.pc,pc:=20 },rfl,rfl,rfl,rfl⟩
    ·have hq:¬ (f = l8Held t t.pc∧S1.phase = 2):=by rw[hS1.2];simpa using hq
     rw[if_neg hq] at hS
     cases hS
     refine jla (cs:=eThr t (.slice a t.roots.length cap)) (t:=T_l8Thread) (l:=eThr t (.slice a t.roots.length cap)) (z_n 17) rfl ?_
     refine jp (p_l8Hold t a t.roots.length cap t.pc f hin) ?_
     refine js (cs':=eThr (l8Hold t t.pc f) (.slice a t.roots.length cap)) rfl rfl (by exact z_n 17) rfl ?_
     refine hK _ _ _ ⟨rfl,l8Hold t t.pc f,?_,rfl,rfl,rfl⟩
     simp only[l8Hold];split<;>(try split)<;>(try split)<;>rfl
  ·rintro e _ _ ⟨rfl,t',hr,rfl,rfl,he⟩
   simp only[List.map,lj,z_t] at he
   simp only[he]
   have hv' : Ints _ _ _:=hv.le (hR1.trans hR2)
   refine jput (p:=p) (S1.setT i t') (by exact ok2) h0 (by rw[hS1.1];exact h1) (by rw[hr];exact hv') (by rfl) λg3 ok3=>?_
   exact jretS (hR1.trans hR2) trivial rfl ok3
end Go.Lf
end
section
namespace Go.Lf
open Go Sm
theorem x_run_bool (a b:Bool) (x y:Operand) (w:World):(do eqGuard .neq 4 x y (.bool a) (.bool b);binOp .neq 4 (.bool a) (.bool b):Sem Value).run P w = .ok (.bool (a != b)) w:=by
 cases a<;>cases b<;>kernel_rfl
theorem jxb {a b:Bool} {x y:Operand} {R:RM} {D:Chs} {k:Value→M} (H:J R D (k (.bool (a != b)))):J R D (X P (do eqGuard .neq T_bool x y (.bool a) (.bool b);binOp .neq T_bool (.bool a) (.bool b)) k):=by
 intro h hs w hw
 have:=x_run_bool a b x y w
 rw[this]
 subst hw
 exact⟨Same.refl _,H _ hs⟩
end Go.Lf
end
section
namespace Go.Lf
open Go Sm
theorem x_flds:(P.fieldsOf T_Region).toList.map (λf=>(f.name != "_",f.type,f.offset)) = [(true,T_int,0),(true,T_int,1),(true,T_int,2),(true,T_int,3),(true,T_int,4)]:=by kernel_rfl
theorem x_part (f:Nat) (o:Nat) (xs:List Value) (v:Value) (w:World) (h:xs[o]? = some v):(part T_int xs.toArray o).run P w = .ok v w:=
 run_part_plain w (by kernel_rfl) (by simpa using h)
theorem x_fields (d:Nat) (w:World) (xs ys:List Value):∀(fs:List Field) (os:List Nat) (ps bs:List Int),fs.map (λf=>(f.name != "_",f.type,f.offset)) = os.map (λo=>(true,T_int,o))→os.map (xs[·]?) = ps.map (λa=>some (I a))→os.map (ys[·]?) = bs.map (λb=>some (I b))→
  (Op.eqFields (d + 1) xs.toArray ys.toArray fs).run P w = .ok (ps == bs) w:=by
 intro fs
 induction fs with
 | nil=>intro os ps bs h1 h2 h3;cases os<;>simp at h1;cases ps<;>simp at h2;cases bs<;>simp at h3;simp[Op.eqFields]
 | cons f fs ih=>
  intro os ps bs h1 h2 h3
  cases os with
  | nil=>simp at h1
  | cons o os=>
   cases ps with
   | nil=>simp at h2
   | cons a ps=>
    cases bs with
    | nil=>simp at h3
    | cons b bs=>
     simp only[List.map_cons,lj,Prod.mk.injEq] at h1 h2 h3
     obtain⟨⟨n1,n2,n3⟩,h1⟩:=h1
     have n1' : f.name≠ "_":=by simpa using n1
     simp only[Op.eqFields,if_pos n1',Sem.run_bind]
     rw[n2,n3,x_part 0 o xs (I a) w h2.1]
     simp only[Result.andThen_ok]
     rw[x_part 0 o ys (I b) w h3.1]
     simp only[Result.andThen_ok]
     rw[run_equalIn_int w d T_int .i64 .i64 a b (by kernel_rfl)]
     simp only[Result.andThen_ok]
     cases hb:(a == b)
     ·simp[hb]
     ·simp[hb,ih os ps bs h1 h2.2 h3.2]
theorem jxrg {a b:Rg} {x y:Operand} {R:RM} {D:Chs} {k:Value→M} (H:J R D (k (.bool (!(a == b))))):J R D (X P (do eqGuard .neq T_Region x y (.agg (eRg a).toArray) (.agg (eRg b).toArray);binOp .neq T_Region (.agg (eRg a).toArray) (.agg (eRg b).toArray)) k):=by
 intro h hs w hw
 have hfs:=x_flds
 rw[Sem.run_bind,run_eqGuard_agg _ _ _ _ _ _ _ (by kernel_rfl)]
 simp only[Result.andThen_ok]
 rw[run_neq_struct,run_equalIn_struct w 9999 T_Region _ _ (by kernel_rfl) (by kernel_rfl)]
 rw[x_fields 9998 w (eRg a) (eRg b) _ [0,1,2,3,4] [a.kind,a.owner,a.top,a.tams,a.live] [b.kind,b.owner,b.top,b.tams,b.live] hfs rfl rfl]
 simp only[Result.andThen_ok]
 have:([a.kind,a.owner,a.top,a.tams,a.live] == [b.kind,b.owner,b.top,b.tams,b.live]) = (a == b):=by
  rw[Bool.eq_iff_iff]
  obtain⟨a1,a2,a3,a4,a5⟩:=a
  obtain⟨b1,b2,b3,b4,b5⟩:=b
  simp
 rw[this]
 subst hw
 exact⟨Same.refl _,H _ hs⟩
end Go.Lf
end
section
namespace Go.Lf
open Go Sm
def Ro (f:Nat) (args:List Value) (v:Value) (R:RM) (D:Chs):Prop:=Fn P f args R D λv' _ A=>v' = v∧A = D
theorem jro {f:Nat} {args:List Value} {v:Value} {R:RM} {D:Chs} {k:Value→M} (hF:Ro f args v R D) (H:J R D (k v)):J R D (CA P f args k):=by
 intro h hs
 refine CA_mono ?_ (hF [] h (by simpa using hs))
 rintro v' h' ⟨R',A',h1,h2,rfl,rfl⟩
 exact H h' (by simpa using h2.le h1)
theorem ro_ret {v v' : Value} {R:RM} {D E G F:Chs} (hv:v' = v) [s:Sp G (D ++ F) E]:J R G (POST R F (λv' _ A=>v' = v∧A = D) v'):=by
 intro h hs
 refine⟨R,D,RM.le.refl R,?_,hv,rfl⟩
 exact (hs.perm s.p).keep
theorem jln {R:RM} {D:Chs} {a:Option Addr} {n c:Nat} {k:Value→M} (H:J R D (k (I n))):J R D (LN (.slice a n c) k):=H
def Or2 (c u:Value) (v:Bool):Prop:=∀k:Value→M,PK c (.bool true) u k = k (.bool v)
def And2 (c u:Value) (v:Bool):Prop:=∀k:Value→M,PK c u (.bool false) k = k (.bool v)
theorem or2_t {u:Value}:Or2 (.bool true) u true:=λ_=>rfl
theorem or2_f {b:Bool}:Or2 (.bool false) (.bool b) b:=λ_=>rfl
theorem and2_t {b:Bool}:And2 (.bool true) (.bool b) b:=λ_=>rfl
theorem and2_f {u:Value}:And2 (.bool false) u false:=λ_=>rfl
section cuts
variable {R:RM} {D:Chs} {lv:List Nat} {B:(List Value→M)→M} {K:Env→M}
theorem jor (pre:List Value) (v:Bool) (H1:∀K' : List Value→M,(∀c u w,Or2 c u w→w = v→J R D (K' (pre ++ [c,u])))→J R D (B K')) (H2:∀e c u,Or2 c u v→lv.map e = pre ++ [c,u]→J R D (K e)):J R D (CUT lv B K):=
 jcutq (λvs R' D'=>R' = R∧D' = D∧∃c u,vs = pre ++ [c,u]∧Or2 c u v) (λK' h=>H1 K' λc u w hc hw=>h _ _ _ ⟨rfl,rfl,c,u,rfl,hw▸hc⟩) λe R' D' ⟨h1,h2,c,u,h3,h4⟩=>by
  subst h1 h2;exact H2 e c u h4 h3
theorem jan (pre:List Value) (v:Bool) (H1:∀K' : List Value→M,(∀c u w,And2 c u w→w = v→J R D (K' (pre ++ [c,u])))→J R D (B K')) (H2:∀e c u,And2 c u v→lv.map e = pre ++ [c,u]→J R D (K e)):J R D (CUT lv B K):=
 jcutq (λvs R' D'=>R' = R∧D' = D∧∃c u,vs = pre ++ [c,u]∧And2 c u v) (λK' h=>H1 K' λc u w hc hw=>h _ _ _ ⟨rfl,rfl,c,u,rfl,hw▸hc⟩) λe R' D' ⟨h1,h2,c,u,h3,h4⟩=>by
  subst h1 h2;exact H2 e c u h4 h3
theorem jsame (pre:List Value) (H1:∀K' : List Value→M,J R D (K' pre)→J R D (B K')) (H2:∀e,lv.map e = pre→J R D (K e)):J R D (CUT lv B K):=
 jcutq (λvs R' D'=>R' = R∧D' = D∧vs = pre) (λK' h=>H1 K' (h _ _ _ ⟨rfl,rfl,rfl⟩)) λe R' D' ⟨h1,h2,h3⟩=>by
  subst h1 h2;exact H2 e h3
end cuts
theorem row_cell {t:List Rg} {sp:List Value} {i:Nat} (h:i < t.length) {f:Nat} {v:Value} (hv:(eRg (t[i]))[f]? = some v):(rowsE eRg t ++ sp)[i * 5 + f]? = some v:=by
 have:=rowsE_get (f:=eRg) (w:=5) (λ_=>rfl) (sp:=sp) h
 have e2:=congrArg (λl=>l[f]?) this
 simp only[List.getElem?_take,List.getElem?_drop] at e2
 have hf:f < 5:=by
  by_cases c:f < 5
  ·exact c
  ·have:(eRg (t[i]))[f]? = none:=List.getElem?_eq_none (by show 5≤f;omega)
   rw[this] at hv;cases hv
 rw[if_pos hf] at e2
 rw[e2,hv]
theorem row_len {t:List Rg} {sp:List Value} {i:Nat} (h:i < t.length):i * 5 + 5≤(rowsE eRg t ++ sp).length:=by
 rw[List.length_append,rowsE_size (w:=5) (λ_=>rfl)];omega
section table
variable {t:List Rg} {sp:List Value} {b cap:Nat} {R:RM} {D:Chs}
theorem r_l4Own (owner:Int) (hl:t.length < 1000000) [a:At D b (C T_Region (rowsE eRg t ++ sp))]:Ro F_s_l4Own [.slice (some ⟨b,0,none⟩) t.length cap,I owner] (I (own t owner)) R D:=by
 refine s_s_l4Own λF=>?_
 unfold c_s_l4Own
 have ex:=find_row (λx=>x.kind == 2 && x.owner == owner) t
 refine jlp (λn vs R' D'=>R' = R∧D' = D ++ F∧∃r:Nat,1≤r∧r≤t.length + 1∧vs = [.slice (some ⟨b,0,none⟩) t.length cap,I owner,I r]∧n = t.length + 1 - r∧own t owner = findFrom (λx=>x.kind == 2 && x.owner == owner) r (t.drop r))
  (n:=t.length) ⟨rfl,rfl,1,by omega,by omega,rfl,by omega,by rw[own,List.drop_one]⟩ ?_
 rintro n e R' D' K ⟨rfl,rfl,r,r0,hr,he,hn,hown⟩ hK
 simp only[List.map,lc,ln,lj,z_t] at he
 simp only[he]
 refine jln (jlt (jif (λhc=>?_) (λhc=>?_)))
 ·have hc:r < t.length:=by have:=z_f hc;omega
  have hd:t.drop r = t[r] :: t.drop (r + 1):=List.drop_eq_getElem_cons hc
  rw[hd] at hown
  simp only[findFrom] at hown
  refine jan [.slice (some ⟨b,0,none⟩) t.length cap,I owner,I r] (t[r].kind == 2 && t[r].owner == owner) (λK' hK'=>?_) (λe c u h2 he=>?_)
  ·refine jia (by omega) (by omega) ?_
   refine jl (v:=I t[r].kind) ?_ (jeq (jgtt (λh1=>?_) (λh1=>?_)))
   ·rw[Nat.zero_add];exact row_cell (f:=0) hc rfl
   ·refine jia (by omega) (by omega) ?_
    refine jl (v:=I t[r].owner) ?_ (jeq (hK' _ _ _ (h1▸and2_t) (by rw[h1,Bool.true_and])))
    rw[Nat.zero_add];exact row_cell (f:=1) hc rfl
   ·exact hK' _ _ _ (h1▸and2_f) (by rw[h1,Bool.false_and])
  ·simp only[List.map,lc,ln,lj,z_t] at he
   simp only[he]
   rw[h2]
   refine jif (λh=>?_) (λh=>?_)
   ·rw[if_pos h] at hown
    exact ro_ret (by rw[hown])
   ·rw[if_neg (by rw[h];decide)] at hown
    refine jadd ⟨by omega,by omega⟩ ?_
    exact hK (t.length + 1 - (r + 1)) _ _ _ (by omega) ⟨rfl,rfl,r + 1,by omega,by omega,rfl,rfl,hown⟩
 ·have hc:¬ r < t.length:=by have:=z_g hc;omega
  rw[List.drop_eq_nil_of_le (by omega)] at hown
  exact ro_ret (by rw[hown];rfl)
end table
end Go.Lf
end
section
namespace Go.Lf
open Go Sm
section table
variable {t:List Rg} {sp:List Value} {b cap:Nat} {R:RM} {D:Chs}
theorem rv_at {t:List Rg} {r:Nat} (h:r < t.length):rv t r = t[r]:=gv_get h
theorem r_TableOk (hl:t.length < 1000000) [a:At D b (C T_Region (rowsE eRg t ++ sp))]:Ro F_s_TableOk [.slice (some ⟨b,0,none⟩) t.length cap] (.bool (tableOk t)) R D:=by
 refine s_s_TableOk λF=>?_
 unfold c_s_TableOk
 have nok:(TOk t→False)→Value.bool false = Value.bool (tableOk t):=λh=>by
  cases hh:tableOk t
  ·rfl
  ·exact (h (tableOk_iff.1 hh)).elim
 refine jor [.slice (some ⟨b,0,none⟩) t.length cap] (decide ((t.length:Int) < 2) || decide ((t.length:Int) > 12)) (λK' hK'=>?_) (λe c u ho he=>?_)
 ·refine jln (jlt (jgtf (λh1=>?_) (λh1=>?_)))
  ·exact jln (jgr (hK' _ _ _ (h1▸or2_f) (by rw[h1,Bool.false_or])))
  ·exact hK' _ _ _ (h1▸or2_t) (by rw[h1,Bool.true_or])
 simp only[List.map,lc,ln,lj,z_t] at he
 simp only[he]
 refine jor [.slice (some ⟨b,0,none⟩) t.length cap] ((decide ((t.length:Int) < 2) || decide ((t.length:Int) > 12)) || !(rv t 0 == edge)) (λK' hK'=>?_) (λe c u ho he=>?_)
 ·rw[ho]
  refine jgtf (λh1=>?_) (λh1=>?_)
  ·have h1':=h1
   simp only[Bool.or_eq_false_iff,decide_eq_false_iff_not] at h1'
   have h0:0 < t.length:=by omega
   refine jia (by omega) (by omega) ?_
   refine jla (l:=eRg (t[0])) (row_len h0) (rowsE_get (f:=eRg) (w:=5) (λ_=>rfl) h0) ?_
   refine jbd (cs:=[I 0,I (-1),I 0,I 0,I 0]) rfl rfl ?_
   have ee:[I 0,I (-1),I 0,I 0,I 0] = eRg edge:=rfl
   rw[ee]
   refine @jxrg (t[0]) edge _ _ _ _ _ ?_
   refine hK' _ _ _ (h1▸or2_f) ?_
   rw[h1,Bool.false_or,show rv t 0 = t[0] from rv_at h0]
  ·exact hK' _ _ _ (h1▸or2_t) (by rw[h1,Bool.true_or])
 simp only[List.map,lc,ln,lj,z_t] at he
 simp only[he]
 rw[ho]
 refine jif (λh0=>?_) (λh0=>?_)
 ·refine ro_ret (nok λT=>?_)
  have n0:=T.n0
  have n1:=T.n1
  have e:=T.e
  simp only[Bool.or_eq_true,z_d,Bool.not_eq_true',beq_eq_false_iff_ne] at h0
  rcases h0 with (h | h) | h
  ·omega
  ·omega
  ·exact h e
 simp only[Bool.or_eq_false_iff,decide_eq_false_iff_not,Bool.not_eq_false',beq_iff_eq] at h0
 obtain⟨⟨n0,n1⟩,hedge⟩:=h0
 refine jlp (λn vs R' D'=>R' = R∧D' = D ++ F∧∃r:Nat,1≤r∧r≤t.length∧vs = [.slice (some ⟨b,0,none⟩) t.length cap,I r]∧n = t.length - r∧(∀k:Nat,1≤k→k < r→RowP k (rv t k)∧∀m:Nat,1≤m→m < k→0≤(rv t k).owner→(rv t m).owner≠(rv t k).owner))
  (n:=t.length - 1) ⟨rfl,rfl,1,by omega,by omega,rfl,rfl,λk h1 h2=>by omega⟩ ?_
 rintro n e R' D' K ⟨rfl,rfl,r,r0,hr,he,hn,hinv⟩ hK
 simp only[List.map,lc,ln,lj,z_t] at he
 simp only[he]
 refine jln (jlt (jif (λhc=>?_) (λhc=>?_)))
 rotate_left
 ·have hc:=z_g hc
  refine ro_ret ?_
  rw[tableOk_iff.2 ⟨by omega,by omega,hedge,λq q0 q1=>?_,λq s q0 q1 s0 s1 hoo heq=>?_⟩]
  ·have:=(hinv q.toNat (by omega) (by omega)).1
   rwa [show ((q.toNat:Nat):Int) = q from by omega] at this
  ·have h1:=(hinv q.toNat (by omega) (by omega)).2 s.toNat (by omega)
   have h2:=(hinv s.toNat (by omega) (by omega)).2 q.toNat (by omega)
   rw[show ((q.toNat:Nat):Int) = q from by omega,show ((s.toNat:Nat):Int) = s from by omega] at h1 h2
   rcases Int.lt_trichotomy q s with c | c | c
   ·exact absurd heq (h2 (by omega) (by rw[← heq];exact hoo))
   ·exact c
   ·exact absurd heq.symm (h1 (by omega) hoo)
 have hc:=z_f hc
 have hrl:r < t.length:=by omega
 have hrv:=rv_at hrl
 have hb:=base_eq (r:=(r:Int)) (by omega) (by omega)
 refine jcutq (λvs R2 D2=>R2 = R'∧D2 = D ++ F∧vs = [.slice (some ⟨b,0,none⟩) t.length cap,I r]∧RowP r (rv t r)∧∀m:Nat,1≤m→m < r→0≤(rv t r).owner→(rv t m).owner≠(rv t r).owner) (λK2 hK2=>?_) ?_
 rotate_left
 ·rintro e _ _ ⟨rfl,rfl,he,hrow,hun⟩
  simp only[List.map,lc,ln,lj,z_t] at he
  simp only[he]
  refine jadd ⟨by omega,by omega⟩ ?_
  refine hK (t.length - (r + 1)) _ _ _ (by omega) ⟨rfl,rfl,r + 1,by omega,by omega,rfl,rfl,λk k1 k2=>?_⟩
  by_cases c:k = r
  ·subst c;exact⟨hrow,hun⟩
  ·exact hinv k k1 (by omega)
 refine jcutq (λvs R2 D2=>R2 = R'∧D2 = D ++ F∧vs = [.slice (some ⟨b,0,none⟩) t.length cap,I r]∧RowP r (rv t r)∧∀m:Nat,1≤m→m < r→0≤(rv t r).owner→(rv t m).owner≠(rv t r).owner) (λK3 hK3=>?_) ?_
 rotate_left
 ·rintro e _ _ ⟨rfl,rfl,he,hrow,hun⟩
  simp only[List.map,lc,ln,lj,z_t] at he
  simp only[he]
  exact hK2 _ _ _ ⟨rfl,rfl,rfl,hrow,hun⟩
 refine jia (by omega) (by omega) ?_
 refine jla (l:=eRg (t[r])) (by rw[Nat.zero_add];exact row_len hrl) (by rw[Nat.zero_add];exact rowsE_get (f:=eRg) (w:=5) (λ_=>rfl) hrl) ?_
 refine ja λbx=>?_
 refine js (cs':=eRg (t[r])) rfl rfl (by simp) rfl ?_
 refine jp (p_RegionBase r) ?_
 rw[hb]
 refine jor [.slice (some ⟨b,0,none⟩) t.length cap,I r,.pointer (some ⟨bx,0,none⟩),I (16 * (r:Int))] (decide (t[r].kind < 1) || decide (t[r].kind > 4)) (λK' hK'=>?_) (λe c u ho he=>?_)
 ·refine jl (v:=I t[r].kind) rfl (jlt (jgtf (λh1=>?_) (λh1=>?_)))
  ·have h1':=h1
   simp only[Bool.or_eq_false_iff,decide_eq_false_iff_not] at h1'
   refine jl (v:=I t[r].kind) rfl (jgr (hK' _ _ _ (h1▸or2_f) (by rw[h1,Bool.false_or])))
  ·exact hK' _ _ _ (h1▸or2_t) (by rw[h1,Bool.true_or])
 simp only[List.map,lc,ln,lj,z_t] at he
 simp only[he]
 refine jor [.slice (some ⟨b,0,none⟩) t.length cap,I r,.pointer (some ⟨bx,0,none⟩),I (16 * (r:Int))] ((decide (t[r].kind < 1) || decide (t[r].kind > 4)) || decide (t[r].top < 16 * r)) (λK' hK'=>?_) (λe c u ho he=>?_)
 ·rw[ho]
  refine jgtf (λh1=>?_) (λh1=>?_)
  ·have h1':=h1
   simp only[Bool.or_eq_false_iff,decide_eq_false_iff_not] at h1'
   refine jl (v:=I t[r].top) rfl (jlt (hK' _ _ _ (h1▸or2_f) (by rw[h1,Bool.false_or])))
  ·exact hK' _ _ _ (h1▸or2_t) (by rw[h1,Bool.true_or])
 simp only[List.map,lc,ln,lj,z_t] at he
 simp only[he]
 refine jor [.slice (some ⟨b,0,none⟩) t.length cap,I r,.pointer (some ⟨bx,0,none⟩),I (16 * (r:Int))] (((decide (t[r].kind < 1) || decide (t[r].kind > 4)) || decide (t[r].top < 16 * r)) || decide (t[r].top > 16 * r + 16)) (λK' hK'=>?_) (λe c u ho he=>?_)
 ·rw[ho]
  refine jgtf (λh1=>?_) (λh1=>?_)
  ·have h1':=h1
   simp only[Bool.or_eq_false_iff,decide_eq_false_iff_not] at h1'
   refine jl (v:=I t[r].top) rfl (jadd ⟨by omega,by omega⟩ (jgr (hK' _ _ _ (h1▸or2_f) (by rw[h1,Bool.false_or]))))
  ·exact hK' _ _ _ (h1▸or2_t) (by rw[h1,Bool.true_or])
 simp only[List.map,lc,ln,lj,z_t] at he
 simp only[he]
 refine jor [.slice (some ⟨b,0,none⟩) t.length cap,I r,.pointer (some ⟨bx,0,none⟩),I (16 * (r:Int))] ((((decide (t[r].kind < 1) || decide (t[r].kind > 4)) || decide (t[r].top < 16 * r)) || decide (t[r].top > 16 * r + 16)) || decide (t[r].tams < 16 * r)) (λK' hK'=>?_) (λe c u ho he=>?_)
 ·rw[ho]
  refine jgtf (λh1=>?_) (λh1=>?_)
  ·have h1':=h1
   simp only[Bool.or_eq_false_iff,decide_eq_false_iff_not] at h1'
   refine jl (v:=I t[r].tams) rfl (jlt (hK' _ _ _ (h1▸or2_f) (by rw[h1,Bool.false_or])))
  ·exact hK' _ _ _ (h1▸or2_t) (by rw[h1,Bool.true_or])
 simp only[List.map,lc,ln,lj,z_t] at he
 simp only[he]
 refine jor [.slice (some ⟨b,0,none⟩) t.length cap,I r,.pointer (some ⟨bx,0,none⟩),I (16 * (r:Int))] (((((decide (t[r].kind < 1) || decide (t[r].kind > 4)) || decide (t[r].top < 16 * r)) || decide (t[r].top > 16 * r + 16)) || decide (t[r].tams < 16 * r)) || decide (t[r].tams > t[r].top)) (λK' hK'=>?_) (λe c u ho he=>?_)
 ·rw[ho]
  refine jgtf (λh1=>?_) (λh1=>?_)
  ·have h1':=h1
   simp only[Bool.or_eq_false_iff,decide_eq_false_iff_not] at h1'
   refine jl (v:=I t[r].tams) rfl (jl (v:=I t[r].top) rfl (jgr (hK' _ _ _ (h1▸or2_f) (by rw[h1,Bool.false_or]))))
  ·exact hK' _ _ _ (h1▸or2_t) (by rw[h1,Bool.true_or])
 simp only[List.map,lc,ln,lj,z_t] at he
 simp only[he]
 refine jor [.slice (some ⟨b,0,none⟩) t.length cap,I r,.pointer (some ⟨bx,0,none⟩),I (16 * (r:Int))] ((((((decide (t[r].kind < 1) || decide (t[r].kind > 4)) || decide (t[r].top < 16 * r)) || decide (t[r].top > 16 * r + 16)) || decide (t[r].tams < 16 * r)) || decide (t[r].tams > t[r].top)) || decide (t[r].live < 0)) (λK' hK'=>?_) (λe c u ho he=>?_)
 ·rw[ho]
  refine jgtf (λh1=>?_) (λh1=>?_)
  ·have h1':=h1
   simp only[Bool.or_eq_false_iff,decide_eq_false_iff_not] at h1'
   refine jl (v:=I t[r].live) rfl (jlt (hK' _ _ _ (h1▸or2_f) (by rw[h1,Bool.false_or])))
  ·exact hK' _ _ _ (h1▸or2_t) (by rw[h1,Bool.true_or])
 simp only[List.map,lc,ln,lj,z_t] at he
 simp only[he]
 refine jor [.slice (some ⟨b,0,none⟩) t.length cap,I r,.pointer (some ⟨bx,0,none⟩),I (16 * (r:Int))] (((((((decide (t[r].kind < 1) || decide (t[r].kind > 4)) || decide (t[r].top < 16 * r)) || decide (t[r].top > 16 * r + 16)) || decide (t[r].tams < 16 * r)) || decide (t[r].tams > t[r].top)) || decide (t[r].live < 0)) || decide (t[r].live > t[r].top - 16 * r)) (λK' hK'=>?_) (λe c u ho he=>?_)
 ·rw[ho]
  refine jgtf (λh1=>?_) (λh1=>?_)
  ·have h1':=h1
   simp only[Bool.or_eq_false_iff,decide_eq_false_iff_not] at h1'
   refine jl (v:=I t[r].live) rfl (jl (v:=I t[r].top) rfl (jsub ⟨by omega,by omega⟩ (jgr (hK' _ _ _ (h1▸or2_f) (by rw[h1,Bool.false_or])))))
  ·exact hK' _ _ _ (h1▸or2_t) (by rw[h1,Bool.true_or])
 simp only[List.map,lc,ln,lj,z_t] at he
 simp only[he]
 rw[ho]
 refine jif (λh0=>?_) (λh0=>?_)
 ·refine jdrop (ro_ret (nok λT=>?_))
  have P:=T.row r (by omega) (by omega)
  rw[hrv] at P
  obtain⟨p1,p2,p3,p4,p5,p6,p7,p8,_⟩:=P
  simp only[Bool.or_eq_true,z_d] at h0
  omega
 simp only[Bool.or_eq_false_iff,decide_eq_false_iff_not] at h0
 obtain⟨⟨⟨⟨⟨⟨⟨q1,q2⟩,q3⟩,q4⟩,q5⟩,q6⟩,q7⟩,q8⟩:=h0
 refine jan [.slice (some ⟨b,0,none⟩) t.length cap,I r,.pointer (some ⟨bx,0,none⟩)] (t[r].kind == 1 && t[r].top != 16 * (r:Int)) (λK' hK'=>?_) (λe c u ho he=>?_)
 ·refine jl (v:=I t[r].kind) rfl (jeq (jgtt (λh1=>?_) (λh1=>?_)))
  ·exact jl (v:=I t[r].top) rfl (jne (hK' _ _ _ (h1▸and2_t) (by rw[h1,Bool.true_and])))
  ·exact hK' _ _ _ (h1▸and2_f) (by rw[h1,Bool.false_and])
 simp only[List.map,lc,ln,lj,z_t] at he
 simp only[he]
 rw[ho]
 refine jif (λh0=>?_) (λh0=>?_)
 ·refine jdrop (ro_ret (nok λT=>?_))
  have P:=T.row r (by omega) (by omega)
  rw[hrv] at P
  have p9:=P.fr
  simp only[z_b,beq_iff_eq,bne_iff_ne,ne_eq] at h0
  exact h0.2 (p9 h0.1)
 have hfr:t[r].kind = 1→t[r].top = 16 * r:=λhk=>by
  simp only[hk,beq_self_eq_true,Bool.true_and,bne_eq_false_iff_eq] at h0;exact h0
 clear h0
 refine jor [.slice (some ⟨b,0,none⟩) t.length cap,I r,.pointer (some ⟨bx,0,none⟩)] (((t[r].kind == 2) != decide (t[r].owner≥0)) || decide (t[r].owner < -1)) (λK' hK'=>?_) (λe c u ho he=>?_)
 ·refine jl (v:=I t[r].kind) rfl (jeq (jl (v:=I t[r].owner) rfl (jge ?_)))
  refine @jxb (t[r].kind == 2) (decide (t[r].owner≥0)) _ _ _ _ _ ?_
  refine jgtf (λh1=>?_) (λh1=>?_)
  ·exact jl (v:=I t[r].owner) rfl (jlt (hK' _ _ _ (h1▸or2_f) (by rw[h1,Bool.false_or])))
  ·exact hK' _ _ _ (h1▸or2_t) (by rw[h1,Bool.true_or])
 simp only[List.map,lc,ln,lj,z_t] at he
 simp only[he]
 refine jor [.slice (some ⟨b,0,none⟩) t.length cap,I r,.pointer (some ⟨bx,0,none⟩)] ((((t[r].kind == 2) != decide (t[r].owner≥0)) || decide (t[r].owner < -1)) || decide (t[r].owner > 3)) (λK' hK'=>?_) (λe c u ho he=>?_)
 ·rw[ho]
  refine jgtf (λh1=>?_) (λh1=>?_)
  ·exact jl (v:=I t[r].owner) rfl (jgr (hK' _ _ _ (h1▸or2_f) (by rw[h1,Bool.false_or])))
  ·exact hK' _ _ _ (h1▸or2_t) (by rw[h1,Bool.true_or])
 simp only[List.map,lc,ln,lj,z_t] at he
 simp only[he]
 rw[ho]
 have how:((t[r].kind == 2) != decide (t[r].owner≥0)) = false↔(t[r].kind = 2↔0≤t[r].owner):=by
  rw[bne_eq_false_iff_eq,Bool.eq_iff_iff];simp
 refine jif (λh0=>?_) (λh0=>?_)
 ·refine jdrop (ro_ret (nok λT=>?_))
  have P:=T.row r (by omega) (by omega)
  rw[hrv] at P
  rw[how.2 P.ow] at h0
  have o0:=P.o0
  have o1:=P.o1
  simp only[Bool.false_or,Bool.or_eq_true,z_d] at h0
  omega
 simp only[Bool.or_eq_false_iff,decide_eq_false_iff_not] at h0
 obtain⟨⟨w1,w2⟩,w3⟩:=h0
 have hrow:RowP r (rv t r):=by
  rw[hrv]
  exact⟨by omega,by omega,by omega,by omega,by omega,by omega,by omega,by omega,hfr,how.1 w1,by omega,by omega⟩
 refine jcutq (λvs R2 D2=>R2 = R'∧D2 = (bx,C T_Region (eRg (t[r]))) :: (D ++ F)∧vs = [.slice (some ⟨b,0,none⟩) t.length cap,I r]∧∀m:Nat,1≤m→m < r→0≤(rv t r).owner→(rv t m).owner≠(rv t r).owner) (λK4 hK4=>?_) ?_
 rotate_left
 ·rintro e _ _ ⟨rfl,rfl,he,hun⟩
  simp only[List.map,lc,ln,lj,z_t] at he
  simp only[he]
  exact jdrop (hK3 _ _ _ ⟨rfl,rfl,rfl,hrow,hun⟩)
 refine jlp (λn vs R2 D2=>R2 = R'∧D2 = (bx,C T_Region (eRg (t[r]))) :: (D ++ F)∧∃k:Nat,1≤k∧k≤r∧vs = [.slice (some ⟨b,0,none⟩) t.length cap,I r,.pointer (some ⟨bx,0,none⟩),I k]∧n = r - k∧∀m:Nat,1≤m→m < k→0≤(rv t r).owner→(rv t m).owner≠(rv t r).owner)
  (n:=r - 1) ⟨rfl,rfl,1,by omega,by omega,rfl,rfl,λm h1 h2=>by omega⟩ ?_
 rintro n e _ _ K' ⟨rfl,rfl,k,k0,k1,he,hn,hun⟩ hK'
 simp only[List.map,lc,ln,lj,z_t] at he
 simp only[he]
 refine jlt (jif (λhd=>?_) (λhd=>?_))
 rotate_left
 ·have hd:=z_g hd
  exact hK4 _ _ _ ⟨rfl,rfl,rfl,λm h1 h2=>hun m h1 (by omega)⟩
 have hd:=z_f hd
 have hkl:k < t.length:=by omega
 refine jan [.slice (some ⟨b,0,none⟩) t.length cap,I r,.pointer (some ⟨bx,0,none⟩),I k] (decide (t[r].owner≥0) && t[k].owner == t[r].owner) (λK5 hK5=>?_) (λe c u ho he=>?_)
 ·refine jl (v:=I t[r].owner) rfl (jge (jgtt (λh1=>?_) (λh1=>?_)))
  ·refine jia (by omega) (by omega) ?_
   refine jl (v:=I t[k].owner) (by rw[Nat.zero_add];exact row_cell (f:=1) hkl rfl) ?_
   exact jl (v:=I t[r].owner) rfl (jeq (hK5 _ _ _ (h1▸and2_t) (by rw[h1,Bool.true_and])))
  ·exact hK5 _ _ _ (h1▸and2_f) (by rw[h1,Bool.false_and])
 simp only[List.map,lc,ln,lj,z_t] at he
 simp only[he]
 rw[ho]
 refine jif (λh0=>?_) (λh0=>?_)
 ·refine jdrop (ro_ret (nok λT=>?_))
  simp only[z_b,z_d,beq_iff_eq] at h0
  have:=T.own r k (by omega) (by omega) (by omega) (by omega) (by rw[hrv];exact h0.1) (by rw[hrv,rv_at hkl];exact h0.2.symm)
  omega
 refine jadd ⟨by omega,by omega⟩ ?_
 refine hK' (r - (k + 1)) _ _ _ (by omega) ⟨rfl,rfl,k + 1,by omega,by omega,rfl,rfl,λm h1 h2 hoo=>?_⟩
 by_cases c:m = k
 ·subst c
  rw[hrv] at hoo ⊢
  rw[rv_at hkl]
  intro heq
  simp[heq,hoo] at h0
 ·exact hun m h1 (by omega) hoo
end table
end Go.Lf
end
section
namespace Go.Lf
open Go Sm
def Mk (f:Nat) (args:List Value) (R:RM) (D:Chs) (q:Value→Chs→Prop):Prop:=Fn P f args R D λv _ A=>∃N,A = N ++ D∧q v N
theorem jmk {f:Nat} {args:List Value} {R:RM} {D:Chs} {q:Value→Chs→Prop} {k:Value→M} (hF:Mk f args R D q) (H:∀v N,q v N→J R (N ++ D) (k v)):J R D (CA P f args k):=by
 intro h hs
 refine CA_mono ?_ (hF [] h (by simpa using hs))
 rintro v' h' ⟨R',A',h1,h2,N,rfl,hq⟩
 exact H v' N hq h' (by simpa using h2.le h1)
theorem mk_ret {v:Value} {R:RM} {D E G F:Chs} {q:Value→Chs→Prop} (N:Chs) (hv:q v N) [s:Sp G N E] [x:Sf E (D ++ F)]:J R G (POST R F (λv _ A=>∃N,A = N ++ D∧q v N) v):=by
 intro h hs
 obtain⟨X,hX⟩:=x.p
 refine⟨R,N ++ D,RM.le.refl R,?_,N,rfl,hv⟩
 have h1:=hs.perm s.p
 subst hX
 have:St h R (X ++ (N ++ D ++ F)):=h1.perm (by
  rw[List.append_assoc N D F,← List.append_assoc N X,← List.append_assoc X N]
  exact List.Perm.append_right _ List.perm_append_comm)
 exact this.drop
theorem jex {R:RM} {D:Chs} {i:Nat} {vs:Array Value} {v:Value} {k:Value→M} (h:vs.toList[i]? = some v) (H:J R D (k v)):J R D (EX i (.tuple vs) k):=by
 have e:EX i (.tuple vs) k = k v:=by simp only[EX,h]
 rw[e];exact H
theorem jian {R:RM} {D:Chs} {k:Value→M} {n b off len cap r:Nat} (h:r < len) (H:J R D (k (.pointer (some ⟨b,off + r * n,none⟩)))):J R D (IA n (.slice (some ⟨b,off,none⟩) len cap) (I (r:Int)) k):=
 jia (by omega) (by omega) (by rw[Int.toNat_natCast];exact H)
def OwnT (t:List Rg) (v:Value) (N:Chs):Prop:=∃b c sp,t.length≤c∧v = .slice (some ⟨b,0,none⟩) t.length c∧N = [(b,C T_Region (rowsE eRg t ++ sp))]
def QTake (r:Option (List Rg × Int)) (v:Value) (N:Chs):Prop:=match r with
 | none=>v = .tuple #[.slice none 0 0,I 0,.bool false]∧N = []
 | some (t',i)=>∃sv,OwnT t' sv N∧v = .tuple #[sv,I i,.bool true]
def QDrop (r:Option (List Rg)) (v:Value) (N:Chs):Prop:=match r with
 | none=>v = .tuple #[.slice none 0 0,.bool false]∧N = []
 | some t'=>∃sv,OwnT t' sv N∧v = .tuple #[sv,.bool true]
theorem jsrow {t:List Rg} {sp:List Value} {b i:Nat} {x:Rg} {R:RM} {D D' : Chs} {m:M} (hi:i < t.length) [a:At D b (C T_Region (rowsE eRg t ++ sp))] [u:Up D b (C T_Region (rowsE eRg t ++ sp)) (C T_Region (rowsE eRg (t.set i x) ++ sp)) D'] (H:J R D' m):J R D (ST 5 (.pointer (some ⟨b,0 + i * 5,none⟩)) (.agg (eRg x).toArray) m):=by
 rw[Nat.zero_add]
 exact js (cs:=rowsE eRg t ++ sp) (cs':=rowsE eRg (t.set i x) ++ sp) rfl rfl (row_len hi) (rowsE_set (f:=eRg) (w:=5) (λ_=>rfl) hi) H
theorem jlrow {t:List Rg} {sp:List Value} {b i:Nat} {R:RM} {D:Chs} {k:Value→M} (hi:i < t.length) [a:At D b (C T_Region (rowsE eRg t ++ sp))] (H:J R D (k (.agg (eRg (t[i])).toArray))):J R D (LA 5 (.pointer (some ⟨b,0 + i * 5,none⟩)) k):=by
 rw[Nat.zero_add]
 exact jla (cs:=rowsE eRg t ++ sp) (row_len hi) (rowsE_get (f:=eRg) (w:=5) (λ_=>rfl) hi) H
section table
variable {t:List Rg} {sp:List Value} {b cap:Nat} {R:RM} {D:Chs}
theorem m_l4Copy (hl:t.length < 1000000) [a:At D b (C T_Region (rowsE eRg t ++ sp))]:Mk F_s_l4Copy [.slice (some ⟨b,0,none⟩) t.length cap] R D (OwnT t):=by
 refine s_s_l4Copy λF=>?_
 unfold c_s_l4Copy
 have hsz:=rowsE_size (f:=eRg) (w:=5) (λ_=>rfl) t
 refine jbs (cs:=[]) rfl rfl λb0=>?_
 have hr:Reads R ((b0,C 29 []) :: (D ++ F)) (some ⟨b,0,none⟩) (t.length * 5) (rowsE eRg t):=by
  have:=Reads.held (R:=R) (D:=(b0,C 29 []) :: (D ++ F)) (b:=b) (o:=0) (n:=t.length * 5) (t:=T_Region) (cs:=rowsE eRg t ++ sp) (by simp[hsz])
  rw[List.drop_zero,List.take_append_of_le_length (by omega),← hsz,List.take_length] at this
  rw[← hsz];exact this
 refine jap0 (new:=rowsE eRg t) hr (by decide) (by omega) (λ_=>rfl) (λh0=>?_) (λb' c hc=>?_)
 ·have ht:t = []:=List.length_eq_zero_iff.1 h0
  subst ht
  exact mk_ret [(b0,C 29 [])] ⟨b0,0,[],z_n _,rfl,rfl⟩
 ·exact mk_ret [(b',C 29 (rowsE eRg t ++ (List.replicate (c - t.length) (cl z29)).flatten))] ⟨b',c,_,hc,rfl,rfl⟩
theorem m_TableTake (owner:Int) (hl:t.length < 1000000) [a:At D b (C T_Region (rowsE eRg t ++ sp))]:Mk F_s_TableTake [.slice (some ⟨b,0,none⟩) t.length cap,I owner] R D (QTake (tableTake t owner)):=by
 refine s_s_TableTake λF=>?_
 unfold c_s_TableTake
 refine jor [.slice (some ⟨b,0,none⟩) t.length cap,I owner] (!tableOk t || decide (owner < 0)) (λK' hK'=>?_) (λe c u ho he=>?_)
 ·refine jro (r_TableOk hl) (jgtf (λh1=>?_) (λh1=>?_))
  ·exact jlt (hK' _ _ _ (h1▸or2_f) (by rw[h1,Bool.false_or]))
  ·exact hK' _ _ _ (h1▸or2_t) (by rw[h1,Bool.true_or])
 simp only[List.map,lc,ln,lj,z_t] at he
 simp only[he]
 refine jor [.slice (some ⟨b,0,none⟩) t.length cap,I owner] ((!tableOk t || decide (owner < 0)) || decide (owner > 3)) (λK' hK'=>?_) (λe c u ho he=>?_)
 ·rw[ho]
  refine jgtf (λh1=>?_) (λh1=>?_)
  ·exact jgr (hK' _ _ _ (h1▸or2_f) (by rw[h1,Bool.false_or]))
  ·exact hK' _ _ _ (h1▸or2_t) (by rw[h1,Bool.true_or])
 simp only[List.map,lc,ln,lj,z_t] at he
 simp only[he]
 refine jor [.slice (some ⟨b,0,none⟩) t.length cap,I owner] (((!tableOk t || decide (owner < 0)) || decide (owner > 3)) || decide (own t owner≥0)) (λK' hK'=>?_) (λe c u ho he=>?_)
 ·rw[ho]
  refine jgtf (λh1=>?_) (λh1=>?_)
  ·exact jro (r_l4Own owner hl) (jge (hK' _ _ _ (h1▸or2_f) (by rw[h1,Bool.false_or])))
  ·exact hK' _ _ _ (h1▸or2_t) (by rw[h1,Bool.true_or])
 simp only[List.map,lc,ln,lj,z_t] at he
 simp only[he]
 rw[ho]
 refine jif (λh0=>?_) (λh0=>?_)
 ·refine mk_ret [] ?_
  have:tableTake t owner = none:=by
   unfold tableTake
   rw[if_neg]
   intro hh
   simp only[Bool.or_eq_true,Bool.not_eq_true',z_d,z_b] at h0 hh
   rcases h0 with ((h | h) | h) | h
   ·rw[hh.1.1.1] at h;cases h
   ·omega
   ·omega
   ·omega
  rw[this];exact⟨rfl,rfl⟩
 simp only[Bool.or_eq_false_iff,Bool.not_eq_false',decide_eq_false_iff_not] at h0
 obtain⟨⟨⟨hok,h2⟩,h3⟩,h4⟩:=h0
 have n1:=(tableOk_iff.1 hok).n1
 have eq:tableTake t owner = (let i:=findFrom (λx=>x.kind == 1) 1 t.tail;if i < 0 then none else some (seti t i ⟨2,owner,regionBase i,regionBase i,0⟩,i)):=by
  unfold tableTake
  rw[if_pos (by simp[hok];omega)]
 refine jcutq (λvs R' D'=>R' = R∧D' = D ++ F∧vs = []∧tableTake t owner = none) (λK2 hK2=>?_) ?_
 rotate_left
 ·rintro e _ _ ⟨rfl,rfl,-,hn⟩
  exact mk_ret [] (by rw[hn];exact⟨rfl,rfl⟩)
 refine jlp (λn vs R' D'=>R' = R∧D' = D ++ F∧∃r:Nat,1≤r∧r≤t.length + 1∧vs = [.slice (some ⟨b,0,none⟩) t.length cap,I owner,I r]∧n = t.length + 1 - r∧findFrom (λx=>x.kind == 1) 1 t.tail = findFrom (λx=>x.kind == 1) r (t.drop r))
  (n:=t.length) ⟨rfl,rfl,1,by omega,by omega,rfl,by omega,by rw[List.drop_one]⟩ ?_
 rintro n e R' D' K ⟨rfl,rfl,r,r0,hr,he,hn,hown⟩ hK
 simp only[List.map,lc,ln,lj,z_t] at he
 simp only[he]
 refine jln (jlt (jif (λhc=>?_) (λhc=>?_)))
 rotate_left
 ·have hc:=z_g hc
  refine hK2 _ _ _ ⟨rfl,rfl,rfl,?_⟩
  rw[eq,hown,List.drop_eq_nil_of_le (by omega)];rfl
 have hc:r < t.length:=by have:=z_f hc;omega
 have hd:t.drop r = t[r] :: t.drop (r + 1):=List.drop_eq_getElem_cons hc
 rw[hd] at hown
 simp only[findFrom] at hown
 refine jia (by omega) (by omega) ?_
 refine jl (v:=I t[r].kind) (by rw[Nat.zero_add];exact row_cell (f:=0) hc rfl) ?_
 refine jeq (jif (λh=>?_) (λh=>?_))
 ·rw[if_pos h] at hown
  refine jmk (m_l4Copy hl) ?_
  rintro _ _ ⟨b',c',sp',hc',rfl,rfl⟩
  refine jp (p_RegionBase r) (jp (p_RegionBase r) ?_)
  refine jbd (cs:=eRg ⟨2,owner,regionBase r,regionBase r,0⟩) rfl rfl ?_
  refine jian hc ?_
  refine jsrow (x:=⟨2,owner,regionBase r,regionBase r,0⟩) hc ?_
  refine mk_ret [(b',C T_Region (rowsE eRg (t.set r ⟨2,owner,regionBase r,regionBase r,0⟩) ++ sp'))] ?_
  rw[eq,hown]
  simp only
  rw[if_neg (by omega)]
  refine⟨_,⟨b',c',sp',?_,rfl,?_⟩,?_⟩
  ·simpa [seti] using hc'
  ·simp[seti]
  ·simp
 ·rw[if_neg (by rw[h];decide)] at hown
  refine jadd ⟨by omega,by omega⟩ ?_
  exact hK (t.length + 1 - (r + 1)) _ _ _ (by omega) ⟨rfl,rfl,r + 1,by omega,by omega,rfl,rfl,hown⟩
end table
end Go.Lf
end
section
namespace Go.Lf
open Go Sm
section table
variable {t:List Rg} {sp:List Value} {b cap:Nat} {R:RM} {D:Chs}
theorem m_TableClose (r:Int) (hl:t.length < 1000000) [a:At D b (C T_Region (rowsE eRg t ++ sp))]:Mk F_s_TableClose [.slice (some ⟨b,0,none⟩) t.length cap,I r] R D (QDrop (tableClose t r)):=by
 refine s_s_TableClose λF=>?_
 unfold c_s_TableClose
 refine jor [.slice (some ⟨b,0,none⟩) t.length cap,I r] (!tableOk t || decide (r < 1)) (λK' hK'=>?_) (λe c u ho he=>?_)
 ·refine jro (r_TableOk hl) (jgtf (λh1=>?_) (λh1=>?_))
  ·exact jlt (hK' _ _ _ (h1▸or2_f) (by rw[h1,Bool.false_or]))
  ·exact hK' _ _ _ (h1▸or2_t) (by rw[h1,Bool.true_or])
 simp only[List.map,lc,ln,lj,z_t] at he
 simp only[he]
 refine jor [.slice (some ⟨b,0,none⟩) t.length cap,I r] ((!tableOk t || decide (r < 1)) || decide (r≥t.length)) (λK' hK'=>?_) (λe c u ho he=>?_)
 ·rw[ho]
  refine jgtf (λh1=>?_) (λh1=>?_)
  ·exact jln (jge (hK' _ _ _ (h1▸or2_f) (by rw[h1,Bool.false_or])))
  ·exact hK' _ _ _ (h1▸or2_t) (by rw[h1,Bool.true_or])
 simp only[List.map,lc,ln,lj,z_t] at he
 simp only[he]
 refine jor [.slice (some ⟨b,0,none⟩) t.length cap,I r] (((!tableOk t || decide (r < 1)) || decide (r≥t.length)) || (rv t r).kind != 2) (λK' hK'=>?_) (λe c u ho he=>?_)
 ·rw[ho]
  refine jgtf (λh1=>?_) (λh1=>?_)
  ·have h1':=h1
   simp only[Bool.or_eq_false_iff,decide_eq_false_iff_not] at h1'
   obtain⟨k,rfl⟩:∃k:Nat,r = k:=⟨r.toNat,by omega⟩
   have hk:k < t.length:=by omega
   refine jian hk ?_
   refine jl (v:=I t[k].kind) (by rw[Nat.zero_add];exact row_cell (f:=0) hk rfl) ?_
   exact jne (hK' _ _ _ (h1▸or2_f) (by rw[h1,Bool.false_or,rv_at hk]))
  ·exact hK' _ _ _ (h1▸or2_t) (by rw[h1,Bool.true_or])
 simp only[List.map,lc,ln,lj,z_t] at he
 simp only[he]
 rw[ho]
 refine jif (λh0=>?_) (λh0=>?_)
 ·refine mk_ret [] ?_
  have:tableClose t r = none:=by
   unfold tableClose
   split
   ·rename_i hh
    simp only[Bool.or_eq_true,Bool.not_eq_true',z_d,z_b,bne_iff_ne,ne_eq] at h0 hh
    by_cases c:r < t.length
    ·rw[idx_rv (by omega) c]
     simp only
     rw[if_neg]
     intro h2
     rcases h0 with ((h | h) | h) | h
     ·rw[hh.1] at h;cases h
     ·omega
     ·omega
     ·exact h (by simpa using h2)
    ·unfold idx
     rw[if_pos (by omega),List.getElem?_eq_none (by omega)]
   ·rfl
  rw[this];exact⟨rfl,rfl⟩
 simp only[Bool.or_eq_false_iff,Bool.not_eq_false',decide_eq_false_iff_not,bne_eq_false_iff_eq] at h0
 obtain⟨⟨⟨hok,h2⟩,h3⟩,h4⟩:=h0
 obtain⟨k,rfl⟩:∃k:Nat,r = k:=⟨r.toNat,by omega⟩
 have hk:k < t.length:=by omega
 refine jmk (m_l4Copy hl) ?_
 rintro _ _ ⟨b',c',sp',hc',rfl,rfl⟩
 refine jian hk (jlrow hk ?_)
 refine ja λb2=>?_
 refine js (cs':=eRg (t[k])) rfl rfl (by simp) rfl ?_
 refine js (cs':=eRg { t[k] with kind:=3 }) rfl rfl (by simp) rfl ?_
 refine js (cs':=eRg { t[k] with kind:=3,owner:=-1 }) rfl rfl (by simp) rfl ?_
 refine jla (l:=eRg { t[k] with kind:=3,owner:=-1 }) (by simp) rfl ?_
 refine jian hk ?_
 refine jsrow (x:={ t[k] with kind:=3,owner:=-1 }) hk ?_
 refine mk_ret [(b',C T_Region (rowsE eRg (t.set k { t[k] with kind:=3,owner:=-1 }) ++ sp'))] ?_
 have:tableClose t k = some (seti t k { t[k] with kind:=3,owner:=-1 }):=by
  unfold tableClose
  rw[if_pos (by simp[hok];omega),idx_rv (by omega) (by omega),rv_at hk]
  simp only
  rw[rv_at hk] at h4
  rw[if_pos (by simpa using h4)]
 rw[this]
 exact⟨_,⟨b',c',sp',by simpa [seti] using hc',rfl,by simp[seti]⟩,by simp⟩
theorem m_TableDrop (r:Int) (hl:t.length < 1000000) [a:At D b (C T_Region (rowsE eRg t ++ sp))]:Mk F_s_TableDrop [.slice (some ⟨b,0,none⟩) t.length cap,I r] R D (QDrop (tableDrop t r)):=by
 refine s_s_TableDrop λF=>?_
 unfold c_s_TableDrop
 refine jor [.slice (some ⟨b,0,none⟩) t.length cap,I r] (!tableOk t || decide (r < 1)) (λK' hK'=>?_) (λe c u ho he=>?_)
 ·refine jro (r_TableOk hl) (jgtf (λh1=>?_) (λh1=>?_))
  ·exact jlt (hK' _ _ _ (h1▸or2_f) (by rw[h1,Bool.false_or]))
  ·exact hK' _ _ _ (h1▸or2_t) (by rw[h1,Bool.true_or])
 simp only[List.map,lc,ln,lj,z_t] at he
 simp only[he]
 refine jor [.slice (some ⟨b,0,none⟩) t.length cap,I r] ((!tableOk t || decide (r < 1)) || decide (r≥t.length)) (λK' hK'=>?_) (λe c u ho he=>?_)
 ·rw[ho]
  refine jgtf (λh1=>?_) (λh1=>?_)
  ·exact jln (jge (hK' _ _ _ (h1▸or2_f) (by rw[h1,Bool.false_or])))
  ·exact hK' _ _ _ (h1▸or2_t) (by rw[h1,Bool.true_or])
 simp only[List.map,lc,ln,lj,z_t] at he
 simp only[he]
 refine jor [.slice (some ⟨b,0,none⟩) t.length cap,I r] (((!tableOk t || decide (r < 1)) || decide (r≥t.length)) || (rv t r).kind == 1) (λK' hK'=>?_) (λe c u ho he=>?_)
 ·rw[ho]
  refine jgtf (λh1=>?_) (λh1=>?_)
  ·have h1':=h1
   simp only[Bool.or_eq_false_iff,decide_eq_false_iff_not] at h1'
   obtain⟨k,rfl⟩:∃k:Nat,r = k:=⟨r.toNat,by omega⟩
   have hk:k < t.length:=by omega
   refine jian hk ?_
   refine jl (v:=I t[k].kind) (by rw[Nat.zero_add];exact row_cell (f:=0) hk rfl) ?_
   exact jeq (hK' _ _ _ (h1▸or2_f) (by rw[h1,Bool.false_or,rv_at hk]))
  ·exact hK' _ _ _ (h1▸or2_t) (by rw[h1,Bool.true_or])
 simp only[List.map,lc,ln,lj,z_t] at he
 simp only[he]
 rw[ho]
 refine jif (λh0=>?_) (λh0=>?_)
 ·refine mk_ret [] ?_
  have:tableDrop t r = none:=by
   unfold tableDrop
   split
   ·rename_i hh
    simp only[Bool.or_eq_true,Bool.not_eq_true',z_d,z_b,beq_iff_eq] at h0 hh
    by_cases c:r < t.length
    ·rw[idx_rv (by omega) c]
     simp only
     rcases h0 with ((h | h) | h) | h
     ·rw[hh.1] at h;cases h
     ·omega
     ·omega
     ·rw[if_pos (by simpa using h)]
    ·unfold idx
     rw[if_pos (by omega),List.getElem?_eq_none (by omega)]
   ·rfl
  rw[this];exact⟨rfl,rfl⟩
 simp only[Bool.or_eq_false_iff,Bool.not_eq_false',decide_eq_false_iff_not,beq_eq_false_iff_ne] at h0
 obtain⟨⟨⟨hok,h2⟩,h3⟩,h4⟩:=h0
 obtain⟨k,rfl⟩:∃k:Nat,r = k:=⟨r.toNat,by omega⟩
 have hk:k < t.length:=by omega
 refine jmk (m_l4Copy hl) ?_
 rintro _ _ ⟨b',c',sp',hc',rfl,rfl⟩
 refine jp (p_RegionBase k) (jp (p_RegionBase k) ?_)
 refine jbd (cs:=eRg (free k)) rfl rfl ?_
 refine jian hk ?_
 refine jsrow (x:=free k) hk ?_
 refine mk_ret [(b',C T_Region (rowsE eRg (t.set k (free k)) ++ sp'))] ?_
 have:tableDrop t k = some (seti t k (free k)):=by
  unfold tableDrop
  rw[if_pos (by simp[hok];omega),idx_rv (by omega) (by omega)]
  simp only
  rw[if_neg (by simpa using h4)]
 rw[this]
 exact⟨_,⟨b',c',sp',by simpa [seti] using hc',rfl,by simp[seti]⟩,by simp⟩
theorem m_TableRoom (owner size:Int) (hl:t.length < 1000000) [a:At D b (C T_Region (rowsE eRg t ++ sp))]:Mk F_s_TableRoom [.slice (some ⟨b,0,none⟩) t.length cap,I owner,I size] R D (QTake (tableRoom t owner size)):=by
 refine s_s_TableRoom λF=>?_
 unfold c_s_TableRoom
 refine jor [.slice (some ⟨b,0,none⟩) t.length cap,I owner,I size] (!tableOk t || decide (owner < 0)) (λK' hK'=>?_) (λe c u ho he=>?_)
 ·refine jro (r_TableOk hl) (jgtf (λh1=>?_) (λh1=>?_))
  ·exact jlt (hK' _ _ _ (h1▸or2_f) (by rw[h1,Bool.false_or]))
  ·exact hK' _ _ _ (h1▸or2_t) (by rw[h1,Bool.true_or])
 simp only[List.map,lc,ln,lj,z_t] at he
 simp only[he]
 refine jor [.slice (some ⟨b,0,none⟩) t.length cap,I owner,I size] ((!tableOk t || decide (owner < 0)) || decide (owner > 3)) (λK' hK'=>?_) (λe c u ho he=>?_)
 ·rw[ho]
  refine jgtf (λh1=>?_) (λh1=>?_)
  ·exact jgr (hK' _ _ _ (h1▸or2_f) (by rw[h1,Bool.false_or]))
  ·exact hK' _ _ _ (h1▸or2_t) (by rw[h1,Bool.true_or])
 simp only[List.map,lc,ln,lj,z_t] at he
 simp only[he]
 refine jor [.slice (some ⟨b,0,none⟩) t.length cap,I owner,I size] (((!tableOk t || decide (owner < 0)) || decide (owner > 3)) || decide (size < 1)) (λK' hK'=>?_) (λe c u ho he=>?_)
 ·rw[ho]
  refine jgtf (λh1=>?_) (λh1=>?_)
  ·exact jlt (hK' _ _ _ (h1▸or2_f) (by rw[h1,Bool.false_or]))
  ·exact hK' _ _ _ (h1▸or2_t) (by rw[h1,Bool.true_or])
 simp only[List.map,lc,ln,lj,z_t] at he
 simp only[he]
 refine jor [.slice (some ⟨b,0,none⟩) t.length cap,I owner,I size] ((((!tableOk t || decide (owner < 0)) || decide (owner > 3)) || decide (size < 1)) || decide (size > 16)) (λK' hK'=>?_) (λe c u ho he=>?_)
 ·rw[ho]
  refine jgtf (λh1=>?_) (λh1=>?_)
  ·exact jgr (hK' _ _ _ (h1▸or2_f) (by rw[h1,Bool.false_or]))
  ·exact hK' _ _ _ (h1▸or2_t) (by rw[h1,Bool.true_or])
 simp only[List.map,lc,ln,lj,z_t] at he
 simp only[he]
 rw[ho]
 refine jif (λh0=>?_) (λh0=>?_)
 ·refine mk_ret [] ?_
  have:tableRoom t owner size = none:=by
   unfold tableRoom
   rw[if_neg]
   intro hh
   simp only[Bool.or_eq_true,Bool.not_eq_true',z_d,z_b] at h0 hh
   rcases h0 with (((h | h) | h) | h) | h
   ·rw[hh.1.1.1.1] at h;cases h
   ·omega
   ·omega
   ·omega
   ·omega
  rw[this];exact⟨rfl,rfl⟩
 simp only[Bool.or_eq_false_iff,Bool.not_eq_false',decide_eq_false_iff_not] at h0
 obtain⟨⟨⟨⟨hok,h2⟩,h3⟩,h4⟩,h5⟩:=h0
 have T:=tableOk_iff.1 hok
 have n1:=T.n1
 have eq:tableRoom t owner size = (match (if 0≤own t owner then idx t (own t owner) else none) with
  | some x=>if x.top + size≤regionBase (own t owner) + 16 then some (t,x.top) else
    (match tableTake ((tableClose t (own t owner)).getD []) owner with | some (u,n)=>some (u,regionBase n) | none=>none)
  | none=>(match tableTake t owner with | some (u,n)=>some (u,regionBase n) | none=>none)):=by
  unfold tableRoom
  rw[if_pos (by simp[hok];omega)]
  rfl
 refine jro (r_l4Own owner hl) ?_
 have hown:own t owner < 0∨(1≤own t owner∧own t owner < t.length∧(rv t (own t owner)).kind = 2):=by
  rcases find_row (λx=>x.kind == 2 && x.owner == owner) t with ⟨h,_⟩ | ⟨h,h',h''⟩
  ·left;unfold own;rw[h];decide
  ·right
   simp only[z_b] at h''
   exact⟨h,h',by have:=h''.1;exact eq_of_beq this⟩
 rcases hown with hneg | ⟨hp,hlt,hk2⟩
 ·have hb:decide (own t owner≥0) = false:=decide_eq_false (by omega)
  rw[if_neg (by omega)] at eq
  refine jcut (jcut (jge ?_))
  rw[hb]
  refine jft (jend λe he=>?_)
  simp only[List.map,lc,ln,lj,z_t] at he
  simp only[he]
  refine jft (jpkf (jand jev (jend λe he=>?_)))
  simp only[List.map,lc,ln,lj,z_t] at he
  simp only[he]
  refine jiff (jmk (m_l4Copy hl) ?_)
  rintro _ _ ⟨b',c',sp',hc',rfl,rfl⟩
  refine jcut (jge ?_)
  rw[hb]
  refine jiff (jend λe he=>?_)
  simp only[List.map,lc,ln,lj,z_t] at he
  simp only[he]
  refine jmk (m_TableTake owner hl) ?_
  intro v N hq
  cases htk:tableTake t owner with
  | none=>
   rw[htk] at hq eq
   obtain⟨rfl,rfl⟩:=hq
   refine jex rfl (jex rfl (jex rfl (jift ?_)))
   exact mk_ret [] (by rw[eq];exact⟨rfl,rfl⟩)
  | some un=>
   obtain⟨u,n⟩:=un
   rw[htk] at hq eq
   obtain⟨sv,⟨b2,c2,sp2,hc2,rfl,rfl⟩,rfl⟩:=hq
   refine jex rfl (jex rfl (jex rfl (jiff (jp (p_RegionBase n) ?_))))
   exact mk_ret [(b2,C T_Region (rowsE eRg u ++ sp2))] (by rw[eq];exact⟨_,⟨b2,c2,sp2,hc2,rfl,rfl⟩,rfl⟩)
 ·have hb:decide (own t owner≥0) = true:=decide_eq_true (by omega)
  have RR:=T.row _ hp hlt
  have t0:=RR.t0
  have t1:=RR.t1
  obtain⟨k,hkk⟩:∃k:Nat,own t owner = k:=⟨(own t owner).toNat,by omega⟩
  rw[hkk] at eq hb t0 t1 hk2 ⊢
  have hk:k < t.length:=by omega
  rw[rv_at hk] at t0 t1
  have hbase:=base_eq (r:=(k:Int)) (by omega) (by omega)
  rw[if_pos (by omega),idx_rv (by omega) (by omega),rv_at hk] at eq
  simp only at eq
  refine jcut (jcut (jge ?_))
  rw[hb]
  refine jtt (jian hk (jl (v:=I t[k].top) (by rw[Nat.zero_add];exact row_cell (f:=2) hk rfl) (jadd ⟨by omega,by omega⟩ (jend λe he=>?_))))
  simp only[List.map,lc,ln,lj,z_t] at he
  simp only[he]
  refine jtt (jp (p_RegionBase k) (jadd ⟨by omega,by omega⟩ (jle (jpkt (jand (jl (v:=I t[k].top) (by rw[Nat.zero_add];exact row_cell (f:=2) hk rfl) jev) (jend λe he=>?_))))))
  simp only[List.map,lc,ln,lj,z_t] at he
  simp only[he]
  refine jif (λhfit=>?_) (λhfit=>?_)
  ·rw[if_pos (z_f hfit)] at eq
   refine jian hk (jl (v:=I t[k].top) (by rw[Nat.zero_add];exact row_cell (f:=2) hk rfl) (jmk (m_l4Copy hl) ?_))
   rintro _ _ ⟨b',c',sp',hc',rfl,rfl⟩
   refine jand (jl (v:=I t[k].top) (by rw[Nat.zero_add];exact row_cell (f:=2) hk rfl) jev) (jand (jl (v:=I t[k].top) (by rw[Nat.zero_add];exact row_cell (f:=2) hk rfl) jev) ?_)
   exact mk_ret [(b',C T_Region (rowsE eRg t ++ sp'))] (by rw[eq];exact⟨_,⟨b',c',sp',hc',rfl,rfl⟩,rfl⟩)
  ·rw[if_neg (z_g hfit)] at eq
   refine jmk (m_l4Copy hl) ?_
   rintro _ _ ⟨b',c',sp',hc',rfl,rfl⟩
   refine jcut (jge ?_)
   rw[hb]
   refine jift (jmk (m_TableClose k hl) ?_)
   intro v N hq
   have hcl:tableClose t k = some (seti t k { rv t k with kind:=3,owner:=-1 }):=by
    unfold tableClose
    rw[if_pos (by simp[hok];omega),idx_rv (by omega) (by omega)]
    simp only
    rw[if_pos (by simpa using hk2)]
   rw[hcl] at hq eq
   simp only[Option.getD_some] at eq
   obtain⟨sv,⟨b3,c3,sp3,hc3,rfl,rfl⟩,rfl⟩:=hq
   refine jex rfl (jex rfl (jend λe he=>?_))
   simp only[List.map,lc,ln,lj,z_t] at he
   simp only[he]
   refine jmk (m_TableTake owner (by simpa using hl)) ?_
   intro v N hq
   cases htk:tableTake (seti t k { rv t k with kind:=3,owner:=-1 }) owner with
   | none=>
    rw[htk] at hq eq
    obtain⟨rfl,rfl⟩:=hq
    refine jex rfl (jex rfl (jex rfl (jift ?_)))
    exact mk_ret [] (by rw[eq];exact⟨rfl,rfl⟩)
   | some un=>
    obtain⟨u,n⟩:=un
    rw[htk] at hq eq
    obtain⟨sv,⟨b2,c2,sp2,hc2,rfl,rfl⟩,rfl⟩:=hq
    refine jex rfl (jex rfl (jex rfl (jiff (jp (p_RegionBase n) ?_))))
    exact mk_ret [(b2,C T_Region (rowsE eRg u ++ sp2))] (by rw[eq];exact⟨_,⟨b2,c2,sp2,hc2,rfl,rfl⟩,rfl⟩)
end table
end Go.Lf
end
