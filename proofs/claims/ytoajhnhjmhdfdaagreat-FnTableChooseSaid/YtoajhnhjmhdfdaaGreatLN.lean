/- The given row of this law is proved: whatever code comes in, it returns true and leaves the code as it was. Conditions: none. -/
import Derived.Test.YtoajhnhjmhdfdaaGreatRows
import Derived.ProofKit
import Derived.ChangeOld
import Derived.MapKept
import Derived.ChangeMaps4
import Derived.Test.YtoajhnhjmhdfdaaGreatLM
set_option linter.unusedVariables false
set_option linter.unusedSimpArgs false
section
namespace Go.Lf
open Go Sm
structure Blk (w w' : World):Prop where
 same:Ax w w'
 block:∀k,k < w.heap.size→w'.heap[k]? = w.heap[k]?
theorem Blk.frame {W w' : World} (h:Blk W w') (may:MemPlace→Prop):W.keptBut w' may:=by
 refine⟨h.same.1,h.same.2,λi hi=>?_⟩;rw[h.block i hi];split<;>simp_all
theorem Blk.at_ {W w' : World} (h:Blk W w') {p:MemPlace} (hp:p.block < W.heap.size):W.sameAt w' p:=by
 cases p with
 | cell b o=>exact World.cell?_of_block (w:=W) (h.block b hp)
 | map b=>exact h.block b hp
def SI (w:World) (a:Option Addr) (len cap:Nat) (zs:List Int):Prop:=
 (a = none∧len = 0∧cap = 0∧zs = [])∨
 ∃x,a = some x∧len≤cap∧zs.length = cap∧(∀i,i < zs.length→w.cell? (x.add i) = some (.int .u8 (zs.getD i 0)))∧∀n∈zs,(Lit.int .u8 n).wf = true
theorem UI {w:World} {a:Option Addr} {len cap:Nat} {zs:List Int} (h:SI w a len cap zs):Cod (λb=>w.heap[b]?) (.slice a len cap):=by
 rcases h with ⟨rfl,rfl,rfl,rfl⟩ | ⟨x,rfl,hl,hz,hcell,hwz⟩
 ·exact⟨0,none,0,rfl,z_n _,.inl rfl⟩
 ·by_cases h0:len = 0
  ·exact⟨len,some x,cap,rfl,hl,.inl h0⟩
  ·obtain⟨b,off,spot⟩:=x;have hc:=hcell 0 (by omega);have hspot:spot = none:=by simpa [Addr.add] using World.cell?_spot hc
   subst hspot;refine⟨len,_,cap,rfl,hl,.inr ⟨b,off,rfl,λi hi=>?_⟩⟩;have hi' : i < zs.length:=by omega
   have hc:=hcell i hi';have hw:=hwz (zs.getD i 0) (by simp[List.getD,hi']);rw[show (⟨b,off,none⟩:Addr).add i = ⟨b,off + i,none⟩ by simp[Addr.add],Sa] at hc;unfold Go.Lf.hc at hc;split at hc
   ·rename_i cs t fz hb;refine⟨t,cs,fz,_,hb,hc,?_⟩;have hr:∀n:Int,(Lit.int .u8 n).wf = true→0≤n∧n < 256:=λn hn=>by
     have h2:(decide (0≤n) && decide (n≤255)) = true:=hn;simp only[z_b,z_d] at h2;omega
    exact hr _ hw
   ·cases hc
theorem RD {f:Nat} (hw:∀(R:RM) (v:Value),Cod R v→Fn P f [v] R [] (λx _ A=>x = .bool true∧A = [])) {w:World} {a:Option Addr} {len cap:Nat} {zs:List Int} (h:SI w a len cap zs) :
  Calls P f #[.slice a len cap] w λe w'=>e = .returned (.bool true)∧Blk w w':=by
 have h1:=hw _ _ (UI h) [] w.heap ⟨λb o hb=>hb,(λb o hm=>by cases hm),List.nodup_nil⟩ w rfl;refine h1.mono ?_;rintro e w' ⟨v,rfl,hs,R',A',h2,h3,rfl,h4⟩;refine⟨rfl,hs,λk hk=>?_⟩;have:=h3.rd k _ (h2 k _ (Array.getElem?_eq_getElem hk));rw[this,Array.getElem?_eq_getElem hk]
end Go.Lf
end
section
namespace Sm
def Bo (held:List Int) (i:Nat) (x:Rg):Bool:=x.kind == 3 && x.top == x.Ah && decide (x.AF < x.top - AG i) && !(held.contains (i:Int))
def Bw (held:List Int):Nat→List Rg→List Int
 | _,[]=>[]
 | i,x :: r=>if Bo held i x then (i:Int) :: Bw held (i + 1) r else Bw held (i + 1) r
def bk (f:Int→Int) (l:List Int) (n:Int):List Int:=l.filter λr=>f r == n
def srt (f:Int→Int) (l:List Int):Nat→Int→List Int
 | 0,_=>[]
 | k + 1,n=>bk f l n ++ srt f l k (n + 1)
def gr (f:Int→Int):List Int→Int→List Int × List Int
 | [],_=>([],[])
 | r :: l,left=>if f r = 0 then ((gr f l left).1,r :: (gr f l left).2) else if f r≤left then (r :: (gr f l (left - f r)).1,(gr f l (left - f r)).2) else gr f l left
theorem NU {held:List Int} {n:Int} {i:Nat} {x:Rg}:BU held n i x = (Bo held i x && x.AF == n):=by
 unfold BU Bo;cases x.kind == 3<;>cases x.top == x.Ah<;>cases x.AF == n<;>cases decide (x.AF < x.top - AG i)<;>cases held.contains (i:Int)<;>rfl
theorem Ty {held:List Int} {f:Int→Int} {n:Int} (hn:1≤n) {rest:List Int}:∀(t:List Rg) (i:Nat) (left:Int),(∀j (h:j < t.length),f ((i + j:Nat):Int) = (t[j]).AF)→
  gr f (bk f (Bw held i t) n ++ rest) left = ((BZ held n i t left).2 ++ (gr f rest (BZ held n i t left).1).1,(gr f rest (BZ held n i t left).1).2)
 | [],i,left,h=>by simp[Bw,bk,BZ]
 | x :: t,i,left,h=>by
  have h0:f (i:Int) = x.AF:=h 0 (by simp);have ih:=λleft=>Ty (held:=held) hn (rest:=rest) t (i + 1) left λj hj=>by
   have:=h (j + 1) (by simpa using hj);rw[show i + (j + 1) = i + 1 + j from by omega] at this;simpa using this
  unfold BZ;rw[NU];by_cases c:Bo held i x = true
  ·have e1:Bw held i (x :: t) = (i:Int) :: Bw held (i + 1) t:=by show (if Bo held i x = true then _ else _) = _;rw[if_pos c]
   rw[e1,c];by_cases d:x.AF = n
   ·have e2:bk f ((i:Int) :: Bw held (i + 1) t) n = (i:Int) :: bk f (Bw held (i + 1) t) n:=by
     unfold bk;rw[List.filter_cons,if_pos (by rw[h0];simpa using d)]
    rw[e2,List.cons_append];show (if f (i:Int) = 0 then _ else if f (i:Int)≤left then _ else _) = _;rw[h0,d,if_neg (by omega)];by_cases g:n≤left
    ·rw[if_pos g,if_pos (by simp[g])];rw[ih];rfl
    ·rw[if_neg g,if_neg (by simp[g])];rw[ih]
   ·have e2:bk f ((i:Int) :: Bw held (i + 1) t) n = bk f (Bw held (i + 1) t) n:=by
     unfold bk;rw[List.filter_cons,if_neg (by rw[h0];simpa using d)]
    rw[e2,if_neg (by simp[d])];exact ih left
  ·have e1:Bw held i (x :: t) = Bw held (i + 1) t:=by show (if Bo held i x = true then _ else _) = _;rw[if_neg c]
   rw[e1,if_neg (by simp[c])];exact ih left
theorem PG {held:List Int} {f:Int→Int} {rest:List Int}:∀(t:List Rg) (i:Nat) (left:Int),(∀j (h:j < t.length),f ((i + j:Nat):Int) = (t[j]).AF)→
  gr f (bk f (Bw held i t) 0 ++ rest) left = ((gr f rest left).1,C8 held i t ++ (gr f rest left).2)
 | [],i,left,h=>by simp[Bw,bk,C8]
 | x :: t,i,left,h=>by
  have h0:f (i:Int) = x.AF:=h 0 (by simp);have ih:=PG (held:=held) (rest:=rest) t (i + 1) left λj hj=>by
   have:=h (j + 1) (by simpa using hj);rw[show i + (j + 1) = i + 1 + j from by omega] at this;simpa using this
  unfold C8;rw[NU];by_cases c:Bo held i x = true
  ·have e1:Bw held i (x :: t) = (i:Int) :: Bw held (i + 1) t:=by show (if Bo held i x = true then _ else _) = _;rw[if_pos c]
   rw[e1,c];by_cases d:x.AF = 0
   ·have e2:bk f ((i:Int) :: Bw held (i + 1) t) 0 = (i:Int) :: bk f (Bw held (i + 1) t) 0:=by
     unfold bk;rw[List.filter_cons,if_pos (by rw[h0];simpa using d)]
    rw[e2,List.cons_append];show (if f (i:Int) = 0 then _ else if f (i:Int)≤left then _ else _) = _;rw[h0,if_pos d,if_pos (by simp[d]),ih];rfl
   ·have e2:bk f ((i:Int) :: Bw held (i + 1) t) 0 = bk f (Bw held (i + 1) t) 0:=by
     unfold bk;rw[List.filter_cons,if_neg (by rw[h0];simpa using d)]
    rw[e2,if_neg (by simp[d])];exact ih
  ·have e1:Bw held i (x :: t) = Bw held (i + 1) t:=by show (if Bo held i x = true then _ else _) = _;rw[if_neg c]
   rw[e1,if_neg (by simp[c])];exact ih
theorem Sj {held:List Int} {f:Int→Int} {t:List Rg} (h:∀j (h:j < t.tail.length),f ((1 + j:Nat):Int) = (t.tail[j]).AF):∀(k:Nat) (n left:Int),1≤n→gr f (srt f (Bw held 1 t.tail) k n) left = (BM t held k n left,[])
 | 0,n,left,_=>rfl
 | k + 1,n,left,hn=>by
  unfold srt BM;rw[Ty hn _ _ _ h,Sj h k (n + 1) _ (by omega)]
theorem LW {held:List Int} {AI:Int} {t:List Rg} (hok:Ay t = true):gr (λr=>(rv t r).AF) (srt (λr=>(rv t r).AF) (Bw held 1 t.tail) 17 0) AI = AX t AI held:=by
 have h:∀j (h:j < t.tail.length),(rv t ((1 + j:Nat):Int)).AF = (t.tail[j]).AF:=λj h=>by rw[HA h]
 unfold srt;rw[PG (f:=λr=>(rv t r).AF) _ _ _ h,Sj (f:=λr=>(rv t r).AF) h 16 (0 + 1) AI (by omega)];unfold AX;rw[if_pos hok,List.append_nil];rfl
def Ka (f:Int→Int) (l:List Int) (x:Int):List Int:=(l.filter λr=>decide (f r≤f x)) ++ x :: l.filter λr=>decide (f x < f r)
theorem Im {f:Int→Int} {l:List Int}:∀(k:Nat) (n:Int),∀r∈srt f l k n,n≤f r∧f r < n + k
 | 0,n,r,h=>by cases h
 | k + 1,n,r,h=>by
  unfold srt bk at h;rcases List.mem_append.1 h with h | h
  ·have:=(List.mem_filter.1 h).2;have:=eq_of_beq this;omega
  ·have:=Im k (n + 1) r h;omega
theorem FH {f:Int→Int} {l:List Int} {x:Int}:∀(k:Nat) (n:Int),n≤f x→f x < n + k→srt f (l ++ [x]) k n = Ka f (srt f l k n) x
 | 0,n,h1,h2=>by omega
 | k + 1,n,h1,h2=>by
  have hb:bk f (l ++ [x]) n = bk f l n ++ (if f x = n then [x] else []):=by
   unfold bk;rw[List.filter_append];by_cases c:f x = n
   ·rw[if_pos c];simp[c]
   ·rw[if_neg c];simp[c]
  have hk:∀r∈bk f l n,f r = n:=λr hr=>eq_of_beq (List.mem_filter.1 hr).2
  unfold srt Ka;rw[hb,List.filter_append,List.filter_append];by_cases c:f x = n
  ·rw[if_pos c];have e0:∀k',srt f (l ++ [x]) k' (n + 1) = srt f l k' (n + 1):=by
    have gen:∀(k' : Nat) (m:Int),f x < m→srt f (l ++ [x]) k' m = srt f l k' m:=by
     intro k';induction k' with
     | zero=>intro m _;rfl
     | succ k' ih=>
      intro m hm;unfold srt;rw[ih (m + 1) (by omega)];congr 1;unfold bk;rw[List.filter_append];have:(f x == m) = false:=by rw[beq_eq_false_iff_ne];omega
      simp[this]
    exact λk'=>gen k' (n + 1) (by omega)
   have e1:(bk f l n).filter (λr=>decide (f r≤f x)) = bk f l n:=List.filter_eq_self.2 λr hr=>by rw[hk r hr];simp[c]
   have e2:(bk f l n).filter (λr=>decide (f x < f r)) = []:=List.filter_eq_nil_iff.2 λr hr=>by rw[hk r hr];simp[c]
   have e3:(srt f l k (n + 1)).filter (λr=>decide (f r≤f x)) = []:=List.filter_eq_nil_iff.2 λr hr=>by have:=Im k (n + 1) r hr;simp;omega
   have e4:(srt f l k (n + 1)).filter (λr=>decide (f x < f r)) = srt f l k (n + 1):=List.filter_eq_self.2 λr hr=>by have:=Im k (n + 1) r hr;simp;omega
   rw[e0,e1,e2,e3,e4];simp
  ·rw[if_neg c,List.append_nil,FH k (n + 1) (by omega) (by omega)];have e1:(bk f l n).filter (λr=>decide (f r≤f x)) = bk f l n:=List.filter_eq_self.2 λr hr=>by rw[hk r hr];simp;omega
   have e2:(bk f l n).filter (λr=>decide (f x < f r)) = []:=List.filter_eq_nil_iff.2 λr hr=>by rw[hk r hr];simp;omega
   rw[e1,e2];unfold Ka;simp
end Sm
end
section
namespace Go.Lf
open Go Sm
def MN (f:Int→Int) (l:List Int):Prop:=l.Pairwise λa b=>f a≤f b
theorem GD {f:Int→Int} {l:List Int}:∀(k:Nat) (n:Int),MN f (srt f l k n)
 | 0,n=>List.Pairwise.nil
 | k + 1,n=>by
  unfold srt MN;rw[List.pairwise_append];refine⟨?_,GD k (n + 1),λa ha b hb=>?_⟩
  ·have:∀x∈bk f l n,f x = n:=λx hx=>eq_of_beq (List.mem_filter.1 hx).2
   exact List.pairwise_of_forall_mem_list λa ha b hb=>by rw[this a ha,this b hb];exact Int.le_refl n
  ·have h1:f a = n:=eq_of_beq (List.mem_filter.1 ha).2;have h2:=(Im k (n + 1) b hb).1;omega
theorem UA {f:Int→Int} {A B:List Int} {x:Int} (hs:MN f (A ++ B)) (hB:∀b∈B,f x < f b) (hA:A = []∨∃A' a,A = A' ++ [a]∧f a≤f x):Ka f (A ++ B) x = A ++ x :: B:=by
 have hA' : ∀a∈A,f a≤f x:=by
  rcases hA with rfl | ⟨A',a,rfl,ha⟩
  ·intro a h;cases h
  ·intro y hy;rcases List.mem_append.1 hy with hy | hy
   ·unfold MN at hs;rw[List.pairwise_append,List.pairwise_append] at hs;have:=hs.1.2.2 y hy a (by simp);omega
   ·rw[List.mem_singleton.1 hy];exact ha
 unfold Ka;rw[List.filter_append,List.filter_append];have e1:A.filter (λr=>decide (f r≤f x)) = A:=List.filter_eq_self.2 λr hr=>by simp[hA' r hr]
 have e2:A.filter (λr=>decide (f x < f r)) = []:=List.filter_eq_nil_iff.2 λr hr=>by have:=hA' r hr;simp;omega
 have e3:B.filter (λr=>decide (f r≤f x)) = []:=List.filter_eq_nil_iff.2 λr hr=>by have:=hB r hr;simp;omega
 have e4:B.filter (λr=>decide (f x < f r)) = B:=List.filter_eq_self.2 λr hr=>by simp[hB r hr]
 rw[e1,e2,e3,e4];simp
end Go.Lf
end
section
namespace Go.Lf
open Go Sm
theorem FP (f:Int→Int):∀(k:Nat) (n:Int),srt f [] k n = []
 | 0,n=>rfl
 | k + 1,n=>by unfold srt;rw[FP f k (n + 1)];rfl
theorem V4 {f:Nat} {args:List Value} {v:Value} {R:RM} {X D E:Chs} {k:Value→M} (hF:Ro f args v R D) (hp:X.Perm (D ++ E)) (H:J R X (k v)):J R X (CA P f args k):=by
 intro h hs;refine E7 ?_ (hF E h (hs.perm hp));rintro v' h' ⟨R',A',h1,h2,rfl,rfl⟩;exact H h' ((h2.le h1).perm hp.symm)
set_option maxHeartbeats 1000000 in
theorem Q9 {R:RM} {D:Chs} {b cap fn K:Nat} {n0:Int} {l:List Int} {sp cv:List Value} {f:Int→Int} {cf:Int→Int→Int} (hfn:N6 P fn = true) (hcmp:∀x y,x∈l→y∈l→Ro fn (I x :: I y :: cv) (I (cf x y)) R D) (hcf:∀x y,cf x y < 0↔f x < f y)
  (hk:∀x∈l,n0≤f x∧f x < n0 + K) (hl:l.length < 1000000) :
  Fn P Bq [.slice (some ⟨b,0,none⟩) l.length cap,I 0,I l.length,.func (.func fn) #[] cv.toArray] R ((b,C AZ (l.map I ++ sp)) :: D) (λv R' A=>R' = R∧v = .tuple #[]∧A = (b,C AZ ((srt f l K n0).map I ++ sp)) :: D):=by
 refine Cg λF=>?_
 unfold Bu;have one:∀x∈l,srt f [x] K n0 = [x]:=λx hx=>by
  have:=FH (f:=f) (l:=[]) (x:=x) K n0 (hk x hx).1 (hk x hx).2;rw[ln,FP] at this;rw[this];rfl
 have OB:∀i,i≤l.length→(srt f (l.take i) K n0).length = i∧∀y∈srt f (l.take i) K n0,y∈l:=λi hi=>by
  induction i with
  | zero=>rw[List.take_zero,FP];exact⟨rfl,λy hy=>by cases hy⟩
  | succ i ih=>
   obtain⟨q1,q2⟩:=ih (by omega);have hm:=List.getElem_mem (l:=l) (n:=i) (by omega);rw[List.take_succ_eq_append_getElem (by omega),FH K n0 (hk _ hm).1 (hk _ hm).2];unfold Ka;refine⟨?_,λy hy=>?_⟩
   ·have:∀s:List Int,(s.filter λr=>decide (f r≤f l[i])).length + (s.filter λr=>decide (f l[i] < f r)).length = s.length:=λs=>by
     induction s with
     | nil=>rfl
     | cons a s ih=>
      rw[List.filter_cons,List.filter_cons];by_cases c:f a≤f l[i]
      ·rw[if_pos (by simpa using c),if_neg (by simp<;>omega)];simp;omega
      ·rw[if_neg (by simpa using c),if_pos (by simp<;>omega)];simp;omega
    have:=this (srt f (l.take i) K n0);rw[List.length_append,List.length_cons];omega
   ·rcases List.mem_append.1 hy with hy | hy
    ·exact q2 y (List.mem_filter.1 hy).1
    ·rcases List.mem_cons.1 hy with rfl | hy
     ·exact hm
     ·exact q2 y (List.mem_filter.1 hy).1
 refine Ac ⟨by omega,by omega⟩ ?_;refine jlp (λn vs R' D'=>R' = R∧∃i:Nat,1≤i∧n = l.length - i∧(i≤l.length∨i = 1)∧D' = (b,C AZ ((srt f (l.take i) K n0 ++ l.drop i).map I ++ sp)) :: (D ++ F)∧vs = [.slice (some ⟨b,0,none⟩) l.length cap,I 0,I l.length,.func (.func fn) #[] cv.toArray,I i]) (n:=l.length - 1) ⟨rfl,1,by omega,rfl,.inr rfl,?_,rfl⟩ ?_
 ·have e:srt f (l.take 1) K n0 ++ l.drop 1 = l:=by
   cases l with
   | nil=>rw[List.take_nil,FP];rfl
   | cons a l=>rw[show (a :: l).take 1 = [a] from rfl,one a (by simp)];rfl
  rw[e];rfl
 rintro n e R2 D2 K2 ⟨hR,i,i1,hn,hi,hD,he⟩ hK2;subst hR;rw[hD];clear hD;simp only[List.map,lc,ln,lj,z_t] at he;simp only[he];refine jlt (jif (λhc=>?_) (λhc=>?_));rotate_left
 ·have hc:=z_g hc;have e1:l.take i = l:=List.take_of_length_le (by omega);have e2:l.drop i = []:=List.drop_eq_nil_of_le (by omega);rw[e1,e2,List.append_nil];exact BR (A:=(b,C AZ ((srt f l K n0).map I ++ sp)) :: D) (RM.le.refl _) ⟨rfl,rfl,rfl⟩
 have hc:=z_f hc;have hil:i < l.length:=by omega
 obtain⟨x,hx⟩:∃x,x = l[i]:=⟨_,rfl⟩;have hxm:x∈l:=by rw[hx];exact List.getElem_mem _
 obtain⟨q1,q2⟩:=OB i (by omega);have hsd:=GD (f:=f) (l:=l.take i) K n0;have hsn:srt f (l.take (i + 1)) K n0 = Ka f (srt f (l.take i) K n0) x:=by
  rw[List.take_succ_eq_append_getElem hil,← hx,FH K n0 (hk _ hxm).1 (hk _ hxm).2]
 have hdr:l.drop i = x :: l.drop (i + 1):=by rw[hx];exact List.drop_eq_getElem_cons hil
 rw[hdr];generalize srt f (l.take i) K n0 = s at q1 q2 hsd hsn;refine AH (λvs R' D'=>R' = R2∧D' = (b,C AZ ((Ka f s x ++ l.drop (i + 1)).map I ++ sp)) :: (D ++ F)∧vs = [.slice (some ⟨b,0,none⟩) l.length cap,I 0,I l.length,.func (.func fn) #[] cv.toArray,I i]) (λK3 hK3=>?_) ?_;rotate_left
 ·rintro e R3 D3 ⟨hR,hD,he⟩;subst hR;rw[hD];clear hD;simp only[List.map,lc,ln,lj,z_t] at he;simp only[he];refine Ac ⟨by omega,by omega⟩ (hK2 (l.length - (i + 1)) _ _ _ (by omega) ⟨rfl,i + 1,by omega,rfl,.inl (by omega),by rw[hsn],rfl⟩)
 refine AH (λvs R' D'=>R' = R2∧D' = (b,C AZ ((Ka f s x ++ l.drop (i + 1)).map I ++ sp)) :: (D ++ F)∧vs = [.slice (some ⟨b,0,none⟩) l.length cap,I 0,I l.length,.func (.func fn) #[] cv.toArray,I i]) (λK4 hK4=>?_) ?_;rotate_left
 ·rintro e R3 D3 ⟨hR,hD,he⟩;subst hR;rw[hD];clear hD;simp only[List.map,lc,ln,lj,z_t] at he;simp only[he];exact hK3 _ _ _ ⟨rfl,rfl,rfl⟩
 refine AH (λvs R' D'=>R' = R2∧D' = (b,C AZ ((Ka f s x ++ l.drop (i + 1)).map I ++ sp)) :: (D ++ F)∧vs = [.slice (some ⟨b,0,none⟩) l.length cap,I 0,I l.length,.func (.func fn) #[] cv.toArray,I i]) (λK5 hK5=>?_) ?_;rotate_left
 ·rintro e R3 D3 ⟨hR,hD,he⟩;subst hR;rw[hD];clear hD;simp only[List.map,lc,ln,lj,z_t] at he;simp only[he];exact hK4 _ _ _ ⟨rfl,rfl,rfl⟩
 refine jlp (λn vs R' D'=>R' = R2∧∃A B:List Int,A ++ B = s∧(∀y∈B,f x < f y)∧n = A.length∧D' = (b,C AZ ((A ++ x :: B ++ l.drop (i + 1)).map I ++ sp)) :: (D ++ F)∧vs = [.slice (some ⟨b,0,none⟩) l.length cap,I 0,I l.length,.func (.func fn) #[] cv.toArray,I i,I (A.length:Nat)]) (n:=i) ⟨rfl,s,[],by simp,(λy hy=>by cases hy),q1.symm,by simp,by rw[q1]⟩ ?_;rintro n e R3 D3 K6 ⟨hR,A,B,hAB,hB,hn,hD,he⟩ hK6;subst hR;rw[hD];clear hD;simp only[List.map,lc,ln,lj,z_t] at he;simp only[he];have hAl:A.length + B.length = i:=by rw[← q1,← hAB,List.length_append]
 have hdl:(l.drop (i + 1)).length = l.length - (i + 1):=by rw[List.length_drop]
 refine AH (λvs R' D'=>R' = R3∧D' = (b,C AZ ((A ++ x :: B ++ l.drop (i + 1)).map I ++ sp)) :: (D ++ F)∧∃w:Bool,vs = [.slice (some ⟨b,0,none⟩) l.length cap,I 0,I l.length,.func (.func fn) #[] cv.toArray,I i,I (A.length:Nat),.bool w]∧(w = true→∃A' a,A = A' ++ [a]∧f x < f a)∧(w = false→A = []∨∃A' a,A = A' ++ [a]∧f a≤f x)) (λK7 hK7=>?_) ?_
 ·refine AH (λvs R' D'=>R' = R3∧D' = (b,C AZ ((A ++ x :: B ++ l.drop (i + 1)).map I ++ sp)) :: (D ++ F)∧((A = []∧vs = [.slice (some ⟨b,0,none⟩) l.length cap,I 0,I l.length,.func (.func fn) #[] cv.toArray,I i,I (A.length:Nat),.bool false,U,U,U])∨∃A' a,A = A' ++ [a]∧vs = [.slice (some ⟨b,0,none⟩) l.length cap,I 0,I l.length,.func (.func fn) #[] cv.toArray,I i,I (A.length:Nat),.bool true,.func (.func fn) #[] cv.toArray,I x,I a])) (λK8 hK8=>?_) ?_
  ·refine jgr ?_;rcases List.eq_nil_or_concat A with rfl | ⟨A',a,rfl⟩
   ·exact jft (hK8 _ _ _ ⟨rfl,rfl,.inl ⟨rfl,rfl⟩⟩)
   ·rw[List.concat_eq_append] at *;have hA'l:(A' ++ [a]).length = A'.length + 1:=by simp
    rw[show decide ((((A' ++ [a]).length:Nat):Int) > 0) = true from decide_eq_true (by omega)];refine jtt (Bc (by omega) (jl (v:=I x) ?_ (DE ⟨by omega,by omega⟩ ?_)))
    ·rw[Nat.zero_add,Nat.mul_one,List.getElem?_append_left (by simp<;>omega),List.getElem?_map,List.append_assoc,List.getElem?_append_right (z_n _),Nat.sub_self];rfl
    ·rw[show (((A' ++ [a]).length:Nat):Int) - 1 = ((A'.length:Nat):Int) from by omega];refine Bc (by omega) (jl (v:=I a) ?_ (hK8 _ _ _ ⟨rfl,rfl,.inr ⟨A',a,rfl,rfl⟩⟩));rw[Nat.zero_add,Nat.mul_one,List.getElem?_append_left (by simp<;>omega),List.getElem?_map,List.append_assoc,List.append_assoc,List.getElem?_append_right (z_n _),Nat.sub_self];rfl
  rintro e R4 D4 ⟨hR,hD,he⟩;subst hR;rw[hD];clear hD;rcases he with ⟨hA0,he⟩ | ⟨A',a,hA0,he⟩
  ·simp only[List.map,lc,ln,lj,z_t] at he;simp only[he];exact jft (DU (hK7 _ _ _ ⟨rfl,rfl,false,rfl,(λh=>by cases h),λ_=>.inl hA0⟩))
  ·simp only[List.map,lc,ln,lj,z_t] at he;simp only[he];have ham:a∈l:=q2 a (by rw[← hAB,hA0];simp);have hcv:∀k:Value→M,J R4 ((b,C AZ ((A ++ x :: B ++ l.drop (i + 1)).map I ++ sp)) :: (D ++ F)) (k (I (cf x a)))→J R4 ((b,C AZ ((A ++ x :: B ++ l.drop (i + 1)).map I ++ sp)) :: (D ++ F)) (CV P (.func (.func fn) #[] cv.toArray) [I x,I a] k):=λk hk h hs=>⟨hfn,V4 (hcmp x a hxm ham) (List.perm_middle (l₁:=D) (l₂:=F)).symm hk h hs⟩
   refine jtt (hcv _ (jlt (Da ?_)));refine hK7 _ _ _ ⟨rfl,rfl,decide (cf x a < 0),rfl,λh=>⟨A',a,hA0,(hcf x a).1 (z_f h)⟩,λh=>.inr ⟨A',a,hA0,?_⟩⟩;have h:=z_g h;rw[hcf] at h;omega
 rintro e R4 D4 ⟨hR,hD,w,he,hw1,hw2⟩;subst hR;rw[hD];clear hD;simp only[List.map,lc,ln,lj,z_t] at he;simp only[he];refine jif (λhw=>?_) (λhw=>?_);rotate_left
 ·refine hK5 _ _ _ ⟨rfl,?_,rfl⟩;rw[← hAB,UA (by rw[hAB];exact hsd) hB (hw2 hw)]
 obtain⟨A',a,rfl,hlt⟩:=hw1 hw;have hA'l:(A' ++ [a]).length = A'.length + 1:=by simp
 have ej:((((A' ++ [a]).length:Nat):Int) - 1) = ((A'.length:Nat):Int):=by omega
 refine DE ⟨by omega,by omega⟩ (DE ⟨by omega,by omega⟩ ?_);rw[ej];refine Bc (by omega) (jl (v:=I a) ?_ (Bc (by omega) (jl (v:=I x) ?_ (Bc (by omega) (jsi (l:=A' ++ [a] ++ x :: B ++ l.drop (i + 1)) (by simp<;>omega) (Bc (by omega) (jsi (l:=(A' ++ [a] ++ x :: B ++ l.drop (i + 1)).set (A' ++ [a]).length a) (by simp<;>omega) (DE ⟨by omega,by omega⟩ ?_))))))))
 ·rw[Nat.zero_add,Nat.mul_one,List.getElem?_append_left (by simp<;>omega),List.getElem?_map,List.append_assoc,List.append_assoc,List.getElem?_append_right (z_n _),Nat.sub_self];rfl
 ·rw[Nat.zero_add,Nat.mul_one,List.getElem?_append_left (by simp<;>omega),List.getElem?_map,List.append_assoc,List.getElem?_append_right (z_n _),Nat.sub_self];rfl
 rw[ej];refine hK6 A'.length _ _ _ (by omega) ⟨rfl,A',a :: B,by rw[← hAB];simp,λy hy=>?_,rfl,?_,rfl⟩
 ·rcases List.mem_cons.1 hy with rfl | hy
  ·exact hlt
  ·exact hB y hy
 ·have e1:((A' ++ [a] ++ x :: B ++ l.drop (i + 1)).set (A' ++ [a]).length a).set A'.length x = A' ++ x :: (a :: B) ++ l.drop (i + 1):=by
   rw[List.append_assoc (A' ++ [a]),List.set_append_right _ _ (z_n _),Nat.sub_self];rw[List.append_assoc A',List.set_append_right _ _ (z_n _),Nat.sub_self];simp
  rw[e1]
end Go.Lf
end
section
namespace Go.Lf
open Go Sm
theorem SR {R:RM} {D:Chs} {b cap fn K:Nat} {n0:Int} {l:List Int} {sp cv:List Value} {f:Int→Int} {cf:Int→Int→Int} (hfn:N6 P fn = true) (hcmp:∀x y,x∈l→y∈l→Ro fn (I x :: I y :: cv) (I (cf x y)) R D) (hcf:∀x y,cf x y < 0↔f x < f y)
  (hk:∀x∈l,n0≤f x∧f x < n0 + K) (hl:l.length < 20) :
  Fn P Ci [.slice (some ⟨b,0,none⟩) l.length cap,I l.length,.func (.func fn) #[] cv.toArray] R ((b,C AZ (l.map I ++ sp)) :: D) (λv R' A=>R' = R∧v = .tuple #[]∧A = (b,C AZ ((srt f l K n0).map I ++ sp)) :: D):=by
 refine DR λF=>?_
 unfold Cl;refine AH (λvs R' D'=>R' = R∧D' = (b,C AZ (l.map I ++ sp)) :: (D ++ F)∧vs = [.slice (some ⟨b,0,none⟩) l.length cap,I l.length,.func (.func fn) #[] cv.toArray,I 20,I 0]) (λK1 hK1=>?_) ?_
 ·refine AH (λvs R' D'=>R' = R∧D' = (b,C AZ (l.map I ++ sp)) :: (D ++ F)∧vs = [.slice (some ⟨b,0,none⟩) l.length cap,I l.length,.func (.func fn) #[] cv.toArray,I 20,I 0]) (λK2 hK2=>?_) ?_
  ·refine jlp (λn vs R' D'=>R' = R∧D' = (b,C AZ (l.map I ++ sp)) :: (D ++ F)∧vs = [.slice (some ⟨b,0,none⟩) l.length cap,I l.length,.func (.func fn) #[] cv.toArray,I 20,I 0,I 20]) (n:=0) ⟨rfl,rfl,rfl⟩ ?_;rintro n e R2 D2 K3 ⟨hR,hD,he⟩ hK3;subst hR;rw[hD];clear hD;simp only[List.map,lc,ln,lj,z_t] at he;simp only[he];refine jle ?_;rw[show decide ((20:Int)≤l.length) = false from decide_eq_false (by omega)];exact Cv (hK2 _ _ _ ⟨rfl,rfl,rfl⟩)
  rintro e R2 D2 ⟨hR,hD,he⟩;subst hR;rw[hD];clear hD;simp only[List.map,lc,ln,lj,z_t] at he;simp only[he];exact hK1 _ _ _ ⟨rfl,rfl,rfl⟩
 rintro e R2 D2 ⟨hR,hD,he⟩;subst hR;rw[hD];clear hD;simp only[List.map,lc,ln,lj,z_t] at he;simp only[he];refine jc (A:=(b,C AZ (l.map I ++ sp)) :: D) (F:=F) (s:=⟨List.Perm.refl _⟩) (Q9 hfn hcmp hcf hk (by omega)) ?_;rintro v R3 A _ ⟨hR,rfl,rfl⟩;subst hR;refine jlp (λn vs R' D'=>R' = R3∧D' = (b,C AZ ((srt f l K n0).map I ++ sp)) :: (D ++ F)∧vs = [.slice (some ⟨b,0,none⟩) l.length cap,I l.length,.func (.func fn) #[] cv.toArray,I 20]) (n:=0) ⟨rfl,rfl,rfl⟩ ?_;rintro n e R4 D4 K3 ⟨hR,hD,he⟩ hK3;subst hR;rw[hD];clear hD;simp only[List.map,lc,ln,lj,z_t] at he;simp only[he];refine jlt ?_;rw[show decide ((20:Int) < l.length) = false from decide_eq_false (by omega)];exact Cv (BR (A:=(b,C AZ ((srt f l K n0).map I ++ sp)) :: D) (RM.le.refl _) ⟨rfl,rfl,rfl⟩)
theorem Lz {R:RM} {D:Chs} {b cap fn K:Nat} {n0:Int} {l:List Int} {sp cv:List Value} {f:Int→Int} {cf:Int→Int→Int} (hfn:N6 P fn = true) (hcmp:∀x y,x∈l→y∈l→Ro fn (I x :: I y :: cv) (I (cf x y)) R D) (hcf:∀x y,cf x y < 0↔f x < f y)
  (hk:∀x∈l,n0≤f x∧f x < n0 + K) (hl:l.length < 20) :
  Fn P Ca [.slice (some ⟨b,0,none⟩) l.length cap,.func (.func fn) #[] cv.toArray] R ((b,C AZ (l.map I ++ sp)) :: D) (λv R' A=>R' = R∧v = .tuple #[]∧A = (b,C AZ ((srt f l K n0).map I ++ sp)) :: D):=by
 refine DM λF=>?_
 unfold Ce;refine jln (jc (A:=(b,C AZ (l.map I ++ sp)) :: D) (F:=F) (s:=⟨List.Perm.refl _⟩) (SR hfn hcmp hcf hk hl) ?_);rintro v R3 A _ ⟨hR,rfl,rfl⟩;subst hR;exact BR (A:=(b,C AZ ((srt f l K n0).map I ++ sp)) :: D) (RM.le.refl _) ⟨rfl,rfl,rfl⟩
end Go.Lf
end
section
namespace Go.Lf
open Go Sm
def MT (x y:Int):Int:=if x < y then -1 else if x > y then 1 else 0
theorem Sw {x y:Int}:MT x y < 0↔x < y:=by
 unfold MT;by_cases h:x < y
 ·rw[if_pos h];omega
 ·rw[if_neg h];split<;>omega
theorem Pd (x:Int):Pu Hj [I x] (.bool false):=by
 intro R;refine Ml λF=>?_
 unfold IP;exact jne (BR (A:=[]) (RM.le.refl R) (by simp))
theorem Q1 (x y:Int):Pu G7 [I x,I y] (I (MT x y)):=by
 intro R;refine Kd λF=>?_
 unfold Fs;refine jp (Pd x) (jp (Pd y) (Cv (Cv (jlt (jif (λh=>?_) (λh=>jgr (jif (λh2=>?_) (λh2=>?_))))))))
 ·exact BR (A:=[]) (RM.le.refl R) (by unfold MT;rw[if_pos (z_f h)])
 ·exact BR (A:=[]) (RM.le.refl R) (by unfold MT;rw[if_neg (z_g h),if_pos (z_f h2)])
 ·exact BR (A:=[]) (RM.le.refl R) (by unfold MT;rw[if_neg (z_g h),if_neg (z_g h2)])
section
variable {R:RM} {D:Chs}
theorem QC {t:List Rg} {sp:List Value} {tb cap vb ty:Nat} [a1:At D vb (C ty [.slice (some ⟨tb,0,none⟩) t.length cap])] [a2:At D tb (C AD (AW eRg t ++ sp))] {x y:Nat} (hx:x < t.length) (hy:y < t.length) :
  Ro E5 [I (x:Int),I (y:Int),.pointer (some ⟨vb,0,none⟩)] (I (MT (t[x]).AF (t[y]).AF)) R D:=by
 refine GX λF=>?_
 unfold E3;refine jl (v:=.slice (some ⟨tb,0,none⟩) t.length cap) rfl (Bc hx (jl (v:=I (t[x]).AF) (by rw[Nat.zero_add];exact BT (f:=4) hx rfl) ?_));refine jl (v:=.slice (some ⟨tb,0,none⟩) t.length cap) rfl (Bc hy (jl (v:=I (t[y]).AF) (by rw[Nat.zero_add];exact BT (f:=4) hy rfl) ?_));exact jp (Q1 _ _) (BV rfl)
theorem TN {hv:Value} {l:List Int} (h:B9 R hv l) (x:Int) (hl:l.length < 1000000):∃r:Int,(0≤r↔x∈l)∧Ro FI [hv,I x] (I r) R D:=by
 obtain⟨r,hr⟩:∃r:Int,r = (if x∈l then ((l.findIdx (λa=>a == x):Nat):Int) else -1):=⟨_,rfl⟩;refine⟨r,by rw[hr];split<;>simp_all,?_⟩;refine JZ λF=>?_
 unfold F4;obtain⟨wa,wc,hwv⟩:=h.sl;refine Co h.sl ?_;refine jlp (λn vs R' D'=>R' = R∧D' = D ++ F∧∃i:Nat,i≤l.length∧n = l.length - i∧vs = [hv,I x,I l.length,I i]∧(∀j (hj:j < l.length),j < i→l[j]≠x)) (n:=l.length) ⟨rfl,rfl,0,by omega,rfl,rfl,λj _ h=>by omega⟩ ?_;rintro n e R2 D2 K ⟨hR,hD,i,hi,hn,he,hno⟩ hK;subst hR;rw[hD];clear hD;simp only[List.map,lc,ln,lj,z_t] at he;simp only[he];refine jlt (jif (λhc=>?_) (λhc=>?_));rotate_left
 ·have hc:=z_g hc;refine BV ?_;rw[hr,if_neg];intro hm;obtain⟨j,hj,e⟩:=List.getElem_of_mem hm;exact hno j hj (by omega) e
 have hc:=z_f hc;have hil:i < l.length:=by omega
 refine CN h (by omega) (by omega) (jeq (jif (λhq=>?_) (λhq=>?_)))
 ·have hq:=eq_of_beq hq;simp only[Int.toNat_natCast] at hq;refine BV ?_;rw[hr,if_pos (by rw[hq];exact List.getElem_mem _)];rw[(List.findIdx_eq hil).2 ⟨by simp[hq],λj hj=>by simpa using hno j (by omega) hj⟩]
 ·have hq:=ne_of_beq_false hq;simp only[Int.toNat_natCast] at hq;refine Ac ⟨by omega,by omega⟩ (hK (l.length - (i + 1)) _ _ _ (by omega) ⟨rfl,rfl,i + 1,by omega,rfl,rfl,λj hj h=>?_⟩);by_cases c:j = i
  ·subst c;exact λe=>hq e.symm
  ·exact hno j hj (by omega)
end
end Go.Lf
end
section
namespace Go.Lf
open Go Sm
theorem U6 {f:Nat} {args:List Value} {v:Value} {R:RM} {D F:Chs} {k:Value→M} (hF:Ro f args v R D) (H:J R (D ++ F) (k v)):J R (D ++ F) (CA P f args k):=by
 intro h hs;refine E7 ?_ (hF F h hs);rintro v' h' ⟨R',A',h1,h2,rfl,rfl⟩;exact H h' (h2.le h1)
section
variable {R:RM} {D:Chs}
theorem Pl (fv:Value):Ro Ca [.slice none 0 0,fv] (.tuple #[]) R D:=by
 have h1:∀(R:RM) (D:Chs),Ro Bq [.slice none 0 0,I 0,I 0,fv] (.tuple #[]) R D:=λR D=>by
  refine Cg λF=>?_
  unfold Bu;refine Ac ⟨by omega,by omega⟩ ?_;refine jlp (λn vs R' D'=>R' = R∧D' = D ++ F∧vs = [.slice none 0 0,I 0,I 0,fv,I 1]) (n:=0) ⟨rfl,rfl,rfl⟩ ?_;rintro n e R2 D2 K ⟨hR,hD,he⟩ hK;subst hR;rw[hD];clear hD;simp only[List.map,lc,ln,lj,z_t] at he;simp only[he];exact jlt (Cv (BV rfl))
 have h2:∀(R:RM) (D:Chs),Ro Ci [.slice none 0 0,I 0,fv] (.tuple #[]) R D:=λR D=>by
  refine DR λF=>?_
  unfold Cl;refine AH (λvs R' D'=>R' = R∧D' = D ++ F∧vs = [.slice none 0 0,I 0,fv,I 20,I 0]) (λK1 hK1=>?_) ?_
  ·refine AH (λvs R' D'=>R' = R∧D' = D ++ F∧vs = [.slice none 0 0,I 0,fv,I 20,I 0]) (λK2 hK2=>?_) ?_
   ·refine jlp (λn vs R' D'=>R' = R∧D' = D ++ F∧vs = [.slice none 0 0,I 0,fv,I 20,I 0,I 20]) (n:=0) ⟨rfl,rfl,rfl⟩ ?_;rintro n e R2 D2 K3 ⟨hR,hD,he⟩ hK3;subst hR;rw[hD];clear hD;simp only[List.map,lc,ln,lj,z_t] at he;simp only[he];exact jle (Cv (hK2 _ _ _ ⟨rfl,rfl,rfl⟩))
   rintro e R2 D2 ⟨hR,hD,he⟩;subst hR;rw[hD];clear hD;simp only[List.map,lc,ln,lj,z_t] at he;simp only[he];exact hK1 _ _ _ ⟨rfl,rfl,rfl⟩
  rintro e R2 D2 ⟨hR,hD,he⟩;subst hR;rw[hD];clear hD;simp only[List.map,lc,ln,lj,z_t] at he;simp only[he];refine U6 (h1 _ _) ?_;refine jlp (λn vs R' D'=>R' = R2∧D' = D ++ F∧vs = [.slice none 0 0,I 0,fv,I 20]) (n:=0) ⟨rfl,rfl,rfl⟩ ?_;rintro n e R4 D4 K3 ⟨hR,hD,he⟩ hK3;subst hR;rw[hD];clear hD;simp only[List.map,lc,ln,lj,z_t] at he;simp only[he];exact jlt (Cv (BV rfl))
 refine DM λF=>?_
 unfold Ce;exact jln (U6 (h2 _ _) (BV rfl))
theorem Oq {hv:Value} {l:List Int} (h:B9 R hv l) (x:Int) (hl:l.length < 1000000):Ro EA [hv,I x] (.bool (l.contains x)) R D:=by
 refine Gz λF=>?_
 unfold E4;obtain⟨r,hr,hR⟩:=TN (D:=D) h x hl;refine U6 hR (jge (BV ?_));have:decide (r≥0) = l.contains x:=by
  rw[Bool.eq_iff_iff];simp[hr]
 rw[this]
end
end Go.Lf
end
section
namespace Go.Lf
open Go Sm
theorem EH {held:List Int}:∀(t:List Rg) (i:Nat) (x:Rg) (r:List Rg),t = x :: r→Bw held i t = (if Bo held i x then [(i:Int)] else []) ++ Bw held (i + 1) r
 | _,i,x,r,rfl=>by
  show (if Bo held i x = true then _ else _) = _;split<;>simp
theorem QB {held:List Int} {t:List Rg} (h:Ay t = true):Bw held 0 t = Bw held 1 t.tail:=by
 cases t with
 | nil=>rfl
 | cons e r=>
  have:e = Cs:=(BI.1 h).e;subst this;rw[EH _ 0 Cs r rfl];rw[if_neg (by simp[Bo,Cs])];rfl
theorem NZ {held:List Int}:∀(t:List Rg) (i:Nat),∀r∈Bw held i t,(i:Int)≤r∧r < i + t.length∧(rv t (r - i)).kind = 3
 | [],i,r,h=>by cases h
 | x :: t,i,r,h=>by
  rw[EH _ i x t rfl] at h;rcases List.mem_append.1 h with h | h
  ·split at h
   ·rename_i hc;rw[List.mem_singleton.1 h];refine⟨Int.le_refl _,by simp;omega,?_⟩;rw[Int.sub_self];unfold Bo at hc;simp only[z_b,beq_iff_eq] at hc;exact hc.1.1.1
   ·cases h
  ·obtain⟨h1,h2,h3⟩:=NZ t (i + 1) r h;refine⟨by omega,by simp;omega,?_⟩;have e1:rv (x :: t) (r - i) = rv t (r - (i + 1:Nat)):=by
    have e2:(r - (i:Int)).toNat = (r - ((i + 1:Nat):Int)).toNat + 1:=by omega
    show (x :: t).getD (r - (i:Int)).toNat Cs = t.getD (r - ((i + 1:Nat):Int)).toNat Cs;rw[e2];rfl
   rw[e1];exact h3
theorem KH {held:List Int}:∀(t:List Rg) (i:Nat),(Bw held i t).length≤t.length
 | [],i=>z_n _
 | x :: t,i=>by
  rw[EH _ i x t rfl,List.length_append,List.length_cons];have:=KH (held:=held) t (i + 1);split<;>simp<;>omega
end Go.Lf
end
section
namespace Go.Lf
open Go Sm
theorem JE (r:Int):Pu Du [I r] (I (AG r)):=λR=>F9 λF=>EU r R F
theorem jnt {R:RM} {D:Chs} {c:Bool} {k:Value→M} (H:J R D (k (.bool (!c)))):J R D (NT (.bool c) k):=H
def gl (v1 v2 v3 v8 v18 v19 v20 x47:Value) (K:Env→M):M:=CUT [1,2,3,8,9,18,19,20,50] (λJe48=>CUT [1,2,3,8,9,10,18,19,20,28,33] (λJe51=>LF 0 x47 λx101=>BO .eql x101 (I 3) λx102=>GT x102 true (LF 2 x47 λx104=>LF 3 x47 λx106=>BO .eql x104 x106 λx107=>Je51 [v1,v2,v3,v8,v20,x47,v18,v19,v20,x102,x107]) (Je51 [v1,v2,v3,v8,v20,x47,v18,v19,v20,x102,U])) λe51=>CUT [1,2,3,8,9,18,19,20,35,36,37,38,39,40] (λJe60=>PA (e51 28) (e51 33) λx95=>GT x95 true (FO 4 (e51 10) λx96=>L1 x96 λx97=>FO 2 (e51 10) λx98=>L1 x98 λx99=>Je60 [(e51 1),(e51 2),(e51 3),(e51 8),(e51 9),(e51 18),(e51 19),(e51 20),x95,x96,x97,x98,x99,(e51 9)]) (Je60 [(e51 1),(e51 2),(e51 3),(e51 8),(e51 9),(e51 18),(e51 19),(e51 20),x95,U,U,U,U,U])) λe60=>GT (e60 35) true (CA P 15 [(e60 40)] λx66=>CUT [1,2,3,8,9,18,19,20,35,36,37,38,39,43] (λJe67=>GT (e60 35) true (BO .sub (e60 39) x66 λx79=>BO .lss (e60 37) x79 λx80=>Je67 [(e60 1),(e60 2),(e60 3),(e60 8),(e60 9),(e60 18),(e60 19),(e60 20),(e60 35),(e60 36),(e60 37),(e60 38),(e60 39),x80]) (Je67 [(e60 1),(e60 2),(e60 3),(e60 8),(e60 9),(e60 18),(e60 19),(e60 20),(e60 35),(e60 36),(e60 37),(e60 38),(e60 39),U])) λe67=>CUT [1,2,3,8,9,18,19,20,35,36,37,38,39,45,46,47] (λJe70=>PA (e67 35) (e67 43) λx78=>GT x78 true (Je70 [(e67 1),(e67 2),(e67 3),(e67 8),(e67 9),(e67 18),(e67 19),(e67 20),(e67 35),(e67 36),(e67 37),(e67 38),(e67 39),x78,(e67 2),(e67 9)]) (Je70 [(e67 1),(e67 2),(e67 3),(e67 8),(e67 9),(e67 18),(e67 19),(e67 20),(e67 35),(e67 36),(e67 37),(e67 38),(e67 39),x78,U,U])) λe70=>AND (GT (e70 35) true (L1 (e70 36) λx72=>EV x72 (e70 37)) (EV U (e70 37)))<|AND (GT (e70 35) true (L1 (e70 38) λx73=>EV x73 (e70 39)) (EV U (e70 39)))<|GT (e70 45) true (CA P 31 [(e70 46),(e70 47)] λx74=>NT x74 λx75=>PA (e70 45) x75 λx76=>Je48 [(e70 1),(e70 2),(e70 3),(e70 8),(e70 9),(e70 18),(e70 19),(e70 20),x76]) (PA (e70 45) U λx77=>Je48 [(e70 1),(e70 2),(e70 3),(e70 8),(e70 9),(e70 18),(e70 19),(e70 20),x77])) (CUT [1,2,3,8,9,18,19,20,35,36,37,38,39,43] (λJe81=>GT (e60 35) true (BO .sub (e60 39) U λx93=>BO .lss (e60 37) x93 λx94=>Je81 [(e60 1),(e60 2),(e60 3),(e60 8),(e60 9),(e60 18),(e60 19),(e60 20),(e60 35),(e60 36),(e60 37),(e60 38),(e60 39),x94]) (Je81 [(e60 1),(e60 2),(e60 3),(e60 8),(e60 9),(e60 18),(e60 19),(e60 20),(e60 35),(e60 36),(e60 37),(e60 38),(e60 39),U])) λe81=>CUT [1,2,3,8,9,18,19,20,35,36,37,38,39,45,46,47] (λJe84=>PA (e81 35) (e81 43) λx92=>GT x92 true (Je84 [(e81 1),(e81 2),(e81 3),(e81 8),(e81 9),(e81 18),(e81 19),(e81 20),(e81 35),(e81 36),(e81 37),(e81 38),(e81 39),x92,(e81 2),(e81 9)]) (Je84 [(e81 1),(e81 2),(e81 3),(e81 8),(e81 9),(e81 18),(e81 19),(e81 20),(e81 35),(e81 36),(e81 37),(e81 38),(e81 39),x92,U,U])) λe84=>AND (GT (e84 35) true (L1 (e84 36) λx86=>EV x86 (e84 37)) (EV U (e84 37)))<|AND (GT (e84 35) true (L1 (e84 38) λx87=>EV x87 (e84 39)) (EV U (e84 39)))<|GT (e84 45) true (CA P 31 [(e84 46),(e84 47)] λx88=>NT x88 λx89=>PA (e84 45) x89 λx90=>Je48 [(e84 1),(e84 2),(e84 3),(e84 8),(e84 9),(e84 18),(e84 19),(e84 20),x90]) (PA (e84 45) U λx91=>Je48 [(e84 1),(e84 2),(e84 3),(e84 8),(e84 9),(e84 18),(e84 19),(e84 20),x91]))) K
set_option maxHeartbeats 2000000 in
theorem V2 {R:RM} {D:Chs} {x:Rg} {xb i n:Nat} {hv lv vp ts:Value} {held:List Int} {res:Int} {K48:Env→M} [tk:At D xb (C AD (eRg x))] (hi:i < 12) (hh:B9 R hv held) (hhl:held.length < 1000000) (htop:x.kind = 3→-1000≤x.top∧x.top≤1000)
  (H:∀e:Env,[1,2,3,8,9,18,19,20,50].map e = [I res,hv,vp,lv,I (i:Int),ts,I n,I (i:Int),.bool (Bo held i x)]→J R D (K48 e)):J R D (gl (I res) hv vp lv ts (I n) (I (i:Int)) (.pointer (some ⟨xb,0,none⟩)) K48):=by
 unfold gl;refine AH (λvs R' D'=>R' = R∧D' = D∧vs = [I res,hv,vp,lv,I (i:Int),ts,I n,I (i:Int),.bool (Bo held i x)]) (λK hK=>?_) (λe R' D' ⟨h1,h2,h3⟩=>by subst h1 h2;exact H e h3);have hcr:Bo held i x = (((x.kind == 3 && x.top == x.Ah) && decide (x.AF < x.top - AG i)) && !(held.contains (i:Int))):=rfl;refine jan [I res,hv,vp,lv,I (i:Int),.pointer (some ⟨xb,0,none⟩),ts,I n,I (i:Int)] ((x.kind == 3) && (x.top == x.Ah)) (λK' hK'=>?_) (λe c u ho he=>?_)
 ·refine jl (v:=I x.kind) rfl (jeq (Bj (λh1=>?_) (λh1=>?_)))
  ·refine jl (v:=I x.top) rfl (jl (v:=I x.Ah) rfl (jeq (hK' _ _ _ (h1▸Aq) (by rw[h1,Bool.true_and]))))
  ·exact hK' _ _ _ (h1▸As) (by rw[h1,Bool.false_and])
 simp only[List.map,lc,ln,lj,z_t] at he;simp only[he];refine AH (λvs R' D'=>R' = R∧D' = D∧(((x.kind == 3 && x.top == x.Ah) = true∧vs = [I res,hv,vp,lv,I (i:Int),ts,I n,I (i:Int),.bool true,.pointer (some ⟨xb,0 + 4,none⟩),I x.AF,.pointer (some ⟨xb,0 + 2,none⟩),I x.top,I (i:Int)])∨((x.kind == 3 && x.top == x.Ah) = false∧vs = [I res,hv,vp,lv,I (i:Int),ts,I n,I (i:Int),.bool false,U,U,U,U,U]))) (λK2 hK2=>?_) ?_
 ·rw[ho];refine Bj (λh1=>?_) (λh1=>?_)
  ·exact jl (v:=I x.AF) rfl (jl (v:=I x.top) rfl (hK2 _ _ _ ⟨rfl,rfl,.inl ⟨h1,by rw[h1]⟩⟩))
  ·exact hK2 _ _ _ ⟨rfl,rfl,.inr ⟨h1,by rw[h1]⟩⟩
 rintro e3' R3 D3 ⟨hR,hD,h⟩;subst hR hD;rcases h with ⟨h1,he⟩ | ⟨h1,he⟩
 ·simp only[List.map,lc,ln,lj,z_t] at he;simp only[he];have hk:x.kind = 3:=by
   simp only[z_b,beq_iff_eq] at h1;exact h1.1
  obtain⟨t0,t1⟩:=htop hk;have hb:=CZ (r:=(i:Int)) (by omega) (by omega);refine jtt (jp (JE i) ?_);rw[hb];refine AH (λvs R' D'=>R' = R3∧D' = D3∧vs = [I res,hv,vp,lv,I (i:Int),ts,I n,I (i:Int),.bool true,.pointer (some ⟨xb,0 + 4,none⟩),I x.AF,.pointer (some ⟨xb,0 + 2,none⟩),I x.top,.bool (decide (x.AF < x.top - AG i))]) (λK4 hK4=>?_) ?_
  ·exact jtt (DE ⟨by omega,by omega⟩ (jlt (hK4 _ _ _ ⟨rfl,rfl,by rw[hb]⟩)))
  rintro e4 R4 D4 ⟨hR,hD,he⟩;subst hR hD;simp only[List.map,lc,ln,lj,z_t] at he;simp only[he];refine AH (λvs R' D'=>R' = R4∧D' = D4∧((decide (x.AF < x.top - AG i) = true∧vs = [I res,hv,vp,lv,I (i:Int),ts,I n,I (i:Int),.bool true,.pointer (some ⟨xb,0 + 4,none⟩),I x.AF,.pointer (some ⟨xb,0 + 2,none⟩),I x.top,.bool true,hv,I (i:Int)])∨(decide (x.AF < x.top - AG i) = false∧vs = [I res,hv,vp,lv,I (i:Int),ts,I n,I (i:Int),.bool true,.pointer (some ⟨xb,0 + 4,none⟩),I x.AF,.pointer (some ⟨xb,0 + 2,none⟩),I x.top,.bool false,U,U]))) (λK5 hK5=>?_) ?_
  ·refine Da (Bj (λh2=>?_) (λh2=>?_))
   ·exact hK5 _ _ _ ⟨rfl,rfl,.inl ⟨h2,by rw[h2]⟩⟩
   ·exact hK5 _ _ _ ⟨rfl,rfl,.inr ⟨h2,by rw[h2]⟩⟩
  rintro e5 R5 D5 ⟨hR,hD,h⟩;subst hR hD;rcases h with ⟨h2,he⟩ | ⟨h2,he⟩
  ·simp only[List.map,lc,ln,lj,z_t] at he;simp only[he];refine Ae (jtt (jl (v:=I x.AF) rfl jev)) (Ae (jtt (jl (v:=I x.top) rfl jev)) (jtt (jro (Oq hh (i:Int) hhl) ?_)));refine jnt ?_;refine Da ?_;refine hK _ _ _ ⟨rfl,rfl,?_⟩;rw[hcr,h1,h2];rfl
  ·simp only[List.map,lc,ln,lj,z_t] at he;simp only[he];refine Ae (jtt (jl (v:=I x.AF) rfl jev)) (Ae (jtt (jl (v:=I x.top) rfl jev)) (jft (DU ?_)));refine hK _ _ _ ⟨rfl,rfl,?_⟩;rw[hcr,h1,h2];rfl
 ·simp only[List.map,lc,ln,lj,z_t] at he;simp only[he];refine jft ?_;refine AH (λvs R' D'=>R' = R3∧D' = D3∧vs = [I res,hv,vp,lv,I (i:Int),ts,I n,I (i:Int),.bool false,U,U,U,U,U]) (λK4 hK4=>?_) ?_
  ·exact jft (hK4 _ _ _ ⟨rfl,rfl,rfl⟩)
  rintro e4 R4 D4 ⟨hR,hD,he⟩;subst hR hD;simp only[List.map,lc,ln,lj,z_t] at he;simp only[he];refine AH (λvs R' D'=>R' = R4∧D' = D4∧vs = [I res,hv,vp,lv,I (i:Int),ts,I n,I (i:Int),.bool false,U,U,U,U,.bool false,U,U]) (λK5 hK5=>?_) ?_
  ·exact DU (jft (hK5 _ _ _ ⟨rfl,rfl,rfl⟩))
  rintro e5 R5 D5 ⟨hR,hD,he⟩;subst hR hD;simp only[List.map,lc,ln,lj,z_t] at he;simp only[he];refine Ae (jft jev) (Ae (jft jev) (jft (DU ?_)));refine hK _ _ _ ⟨rfl,rfl,?_⟩;rw[hcr,h1];rfl
end Go.Lf
end
section
namespace Go.Lf
open Go Sm
def VA (res hv vp:Value) (K:Env→M):M:=CUT [1,3,8] (λa=>L1 vp λb=>LN b λc=>CUT [1,3,8] (λa=>LP [1,2,3,8,18,19,20] (λb c=>BO .lss (c 20) (c 19) λd=>IF d (CUT [1,2,3,8,18,19,20] (λa=>CUT [1,2,3,8,18,19,20] (λa=>IA 5 (c 18) (c 20) λb=>LA 5 b λb=>AL 29 z29 λd=>ST 5 d b<|CUT [1,2,3,8,9,18,19,20,50] (λa=>CUT [1,2,3,8,9,10,18,19,20,28,33] (λa=>LF 0 d λb=>BO .eql b (I 3) λb=>GT b true (LF 2 d λe=>LF 3 d λf=>BO .eql e f λe=>a [(c 1),(c 2),(c 3),(c 8),(c 20),d,(c 18),(c 19),(c 20),b,e]) (a [(c 1),(c 2),(c 3),(c 8),(c 20),d,(c 18),(c 19),(c 20),b,U])) λb=>CUT [1,2,3,8,9,18,19,20,35,36,37,38,39,40] (λa=>PA (b 28) (b 33) λc=>GT c true (FO 4 (b 10) λd=>L1 d λe=>FO 2 (b 10) λf=>L1 f λg=>a [(b 1),(b 2),(b 3),(b 8),(b 9),(b 18),(b 19),(b 20),c,d,e,f,g,(b 9)]) (a [(b 1),(b 2),(b 3),(b 8),(b 9),(b 18),(b 19),(b 20),c,U,U,U,U,U])) λb=>GT (b 35) true (CA P 15 [(b 40)] λc=>CUT [1,2,3,8,9,18,19,20,35,36,37,38,39,43] (λa=>GT (b 35) true (BO .sub (b 39) c λc=>BO .lss (b 37) c λc=>a [(b 1),(b 2),(b 3),(b 8),(b 9),(b 18),(b 19),(b 20),(b 35),(b 36),(b 37),(b 38),(b 39),c]) (a [(b 1),(b 2),(b 3),(b 8),(b 9),(b 18),(b 19),(b 20),(b 35),(b 36),(b 37),(b 38),(b 39),U])) λb=>CUT [1,2,3,8,9,18,19,20,35,36,37,38,39,45,46,47] (λa=>PA (b 35) (b 43) λc=>GT c true (a [(b 1),(b 2),(b 3),(b 8),(b 9),(b 18),(b 19),(b 20),(b 35),(b 36),(b 37),(b 38),(b 39),c,(b 2),(b 9)]) (a [(b 1),(b 2),(b 3),(b 8),(b 9),(b 18),(b 19),(b 20),(b 35),(b 36),(b 37),(b 38),(b 39),c,U,U])) λb=>AND (GT (b 35) true (L1 (b 36) λa=>EV a (b 37)) (EV U (b 37)))<|AND (GT (b 35) true (L1 (b 38) λa=>EV a (b 39)) (EV U (b 39)))<|GT (b 45) true (CA P 31 [(b 46),(b 47)] λc=>NT c λc=>PA (b 45) c λc=>a [(b 1),(b 2),(b 3),(b 8),(b 9),(b 18),(b 19),(b 20),c]) (PA (b 45) U λc=>a [(b 1),(b 2),(b 3),(b 8),(b 9),(b 18),(b 19),(b 20),c])) (CUT [1,2,3,8,9,18,19,20,35,36,37,38,39,43] (λa=>GT (b 35) true (BO .sub (b 39) U λc=>BO .lss (b 37) c λc=>a [(b 1),(b 2),(b 3),(b 8),(b 9),(b 18),(b 19),(b 20),(b 35),(b 36),(b 37),(b 38),(b 39),c]) (a [(b 1),(b 2),(b 3),(b 8),(b 9),(b 18),(b 19),(b 20),(b 35),(b 36),(b 37),(b 38),(b 39),U])) λb=>CUT [1,2,3,8,9,18,19,20,35,36,37,38,39,45,46,47] (λa=>PA (b 35) (b 43) λc=>GT c true (a [(b 1),(b 2),(b 3),(b 8),(b 9),(b 18),(b 19),(b 20),(b 35),(b 36),(b 37),(b 38),(b 39),c,(b 2),(b 9)]) (a [(b 1),(b 2),(b 3),(b 8),(b 9),(b 18),(b 19),(b 20),(b 35),(b 36),(b 37),(b 38),(b 39),c,U,U])) λb=>AND (GT (b 35) true (L1 (b 36) λa=>EV a (b 37)) (EV U (b 37)))<|AND (GT (b 35) true (L1 (b 38) λa=>EV a (b 39)) (EV U (b 39)))<|GT (b 45) true (CA P 31 [(b 46),(b 47)] λc=>NT c λc=>PA (b 45) c λc=>a [(b 1),(b 2),(b 3),(b 8),(b 9),(b 18),(b 19),(b 20),c]) (PA (b 45) U λc=>a [(b 1),(b 2),(b 3),(b 8),(b 9),(b 18),(b 19),(b 20),c]))) λb=>IF (b 50) (BS 3 1 (ZR 1 z3) [(0,1,(b 9))] λc=>AP 3 1 8 (cl z3) (b 8) c λc=>a [(b 1),(b 2),(b 3),c,(b 18),(b 19),(b 20)]) (a [(b 1),(b 2),(b 3),(b 8),(b 18),(b 19),(b 20)])) λb=>a [(b 1),(b 2),(b 3),(b 8),(b 18),(b 19),(b 20)]) λa=>BO .add (a 20) (I 1) λc=>b [(a 1),(a 2),(a 3),(a 8),(a 18),(a 19),c]) (a [(c 1),(c 3),(c 8)])) [res,hv,vp,(.slice none 0 0),b,c,(I 0)]) λb=>a [(b 1),(b 3),(b 8)]) K
set_option maxHeartbeats 2000000 in
theorem Tf {R:RM} {D:Chs} {t:List Rg} {sp:List Value} {b cap vb ty:Nat} {hv:Value} {held:List Int} {res:Int} {K5:Env→M} (hl:t.length≤12) (hh:B9 R hv held) (hhl:held.length < 1000000) (htop:∀i (h:i < t.length),(t[i]).kind = 3→-1000≤(t[i]).top∧(t[i]).top≤1000)
  [a2:At D b (C AD (AW eRg t ++ sp))]
  (H:∀(e:Env) lv A,SO (Bw held 0 t) lv A→[1,3,8].map e = [I res,.pointer (some ⟨vb,0,none⟩),lv]→J R (A ++ (vb,C ty [.slice (some ⟨b,0,none⟩) t.length cap]) :: D) (K5 e)):J R ((vb,C ty [.slice (some ⟨b,0,none⟩) t.length cap]) :: D) (VA (I res) hv (.pointer (some ⟨vb,0,none⟩)) K5):=by
 unfold VA;refine AH (λvs R' D'=>R' = R∧∃lv A,SO (Bw held 0 t) lv A∧D' = A ++ (vb,C ty [.slice (some ⟨b,0,none⟩) t.length cap]) :: D∧vs = [I res,.pointer (some ⟨vb,0,none⟩),lv]) (λK hK=>?_) (λe R' D' ⟨h1,lv,A,h2,h3,h4⟩=>by subst h1 h3;exact H e lv A h2 h4);refine jl (v:=.slice (some ⟨b,0,none⟩) t.length cap) rfl (jln ?_);refine AH (λvs R' D'=>R' = R∧∃lv A,SO (Bw held 0 t) lv A∧D' = A ++ (vb,C ty [.slice (some ⟨b,0,none⟩) t.length cap]) :: D∧vs = [I res,.pointer (some ⟨vb,0,none⟩),lv]) (λK2 hK2=>?_) ?_;rotate_left
 ·rintro e R2 D2 ⟨hR,lv,A,so,hD,he⟩;simp only[List.map,lc,ln,lj,z_t] at he;simp only[he];exact hK _ _ _ ⟨hR,lv,A,so,hD,rfl⟩
 refine jlp (λn vs R' D'=>R' = R∧∃(i:Nat) (L:List Int) (lv:Value) (A:Chs),i≤t.length∧n = t.length - i∧SO L lv A∧Bw held 0 t = L ++ Bw held i (t.drop i)∧L.length≤i∧D' = A ++ (vb,C ty [.slice (some ⟨b,0,none⟩) t.length cap]) :: D∧vs = [I res,hv,.pointer (some ⟨vb,0,none⟩),lv,.slice (some ⟨b,0,none⟩) t.length cap,I t.length,I i])
  (n:=t.length) ⟨rfl,0,[],.slice none 0 0,[],by omega,rfl,.inl ⟨rfl,rfl,rfl⟩,by rw[List.drop_zero];rfl,z_n _,rfl,rfl⟩ ?_
 rintro n e R2 D2 K3 ⟨hR,i,L,lv,A,hi,hn,so,hL,hLl,hD,he⟩ hK3;subst hR;rw[hD];clear hD;simp only[List.map,lc,ln,lj,z_t] at he;simp only[he];refine jlt (jif (λhc=>?_) (λhc=>?_));rotate_left
 ·have hc:=z_g hc;refine hK2 _ _ _ ⟨rfl,lv,A,?_,rfl,rfl⟩;rw[hL,List.drop_eq_nil_of_le (by omega)];rw[show Bw held i ([]:List Rg) = [] from rfl,List.append_nil];exact so
 have hc:=z_f hc;have hil:i < t.length:=by omega
 have hnx:Bw held 0 t = (L ++ if Bo held i (t[i]) then [(i:Int)] else []) ++ Bw held (i + 1) (t.drop (i + 1)):=by
  rw[hL,EH (t.drop i) i (t[i]) (t.drop (i + 1)) (List.drop_eq_getElem_cons hil),List.append_assoc]
 refine AH (λvs R' D'=>R' = R2∧∃lv A,SO (L ++ if Bo held i (t[i]) then [(i:Int)] else []) lv A∧D' = A ++ (vb,C ty [.slice (some ⟨b,0,none⟩) t.length cap]) :: D∧vs = [I res,hv,.pointer (some ⟨vb,0,none⟩),lv,.slice (some ⟨b,0,none⟩) t.length cap,I t.length,I i]) (λK4 hK4=>?_) ?_;rotate_left
 ·rintro e R3 D3 ⟨hR,lv,A,so,hD,he⟩;subst hR;rw[hD];clear hD;simp only[List.map,lc,ln,lj,z_t] at he;simp only[he];refine Ac ⟨by omega,by omega⟩ (hK3 (t.length - (i + 1)) _ _ _ (by omega) ⟨rfl,i + 1,_,lv,A,by omega,rfl,so,hnx,?_,rfl,rfl⟩);split<;>simp<;>omega
 refine AH (λvs R' D'=>R' = R2∧∃lv A,SO (L ++ if Bo held i (t[i]) then [(i:Int)] else []) lv A∧D' = A ++ (vb,C ty [.slice (some ⟨b,0,none⟩) t.length cap]) :: D∧vs = [I res,hv,.pointer (some ⟨vb,0,none⟩),lv,.slice (some ⟨b,0,none⟩) t.length cap,I t.length,I i]) (λK5' hK5=>?_) ?_;rotate_left
 ·rintro e R3 D3 ⟨hR,lv,A,so,hD,he⟩;simp only[List.map,lc,ln,lj,z_t] at he;simp only[he];exact hK4 _ _ _ ⟨hR,lv,A,so,hD,rfl⟩
 refine Bc hil (Ej hil (ja λxb=>js (cs':=eRg (t[i])) rfl rfl (by exact z_n 5) rfl ?_));refine V2 (x:=t[i]) (n:=t.length) (held:=held) (res:=res) (hv:=hv) (lv:=lv) (vp:=.pointer (some ⟨vb,0,none⟩)) (ts:=.slice (some ⟨b,0,none⟩) t.length cap) (by omega) hh hhl (htop i hil) λe he=>?_
 simp only[List.map,lc,ln,lj,z_t] at he;simp only[he];refine jif (λhq=>?_) (λhq=>?_)
 ·refine jbs (cs:=[I (i:Int)]) rfl rfl λbs=>?_
  refine Au (D':=(bs,C 3 [I (i:Int)]) :: (A ++ (xb,C AD (eRg (t[i]))) :: (vb,C ty [.slice (some ⟨b,0,none⟩) t.length cap]) :: D)) (List.Perm.cons _ List.perm_middle.symm) ?_;refine FU so (by omega) λlv' A' so'=>?_
  refine Av A' (G:=(vb,C ty [.slice (some ⟨b,0,none⟩) t.length cap]) :: D) ?_;exact hK5 _ _ _ ⟨rfl,lv',A',by rw[if_pos hq];exact so',rfl,rfl⟩
 ·refine Av A (G:=(vb,C ty [.slice (some ⟨b,0,none⟩) t.length cap]) :: D) ?_;exact hK5 _ _ _ ⟨rfl,lv,A,by rw[if_neg (by rw[hq];decide),List.append_nil];exact so,rfl,rfl⟩
end Go.Lf
end
section
namespace Go.Lf
open Go Sm
def rst (v1 v3 v8:Value) (K:Value→M):M:=CUT [11,12] (λa=>LN v8 λb=>CUT [11,12] (λa=>LP [1,3,11,12,59,60,61] (λb c=>BO .lss (c 61) (c 60) λd=>IF d (CUT [1,3,11,12,59,60,61] (λa=>CUT [1,3,11,12,59,60,61] (λa=>IL 1 (c 59) (c 61) λb=>CUT [1,3,11,12,59,60,61] (λa=>L1 (c 3) λd=>IA 5 d b λd=>LF 4 d λd=>BO .eql d (I 0) λd=>IF d (BS 3 1 (ZR 1 z3) [(0,1,b)] λb=>AP 3 1 8 (cl z3) (c 12) b λb=>a [(c 1),(c 3),(c 11),b,(c 59),(c 60),(c 61)]) (L1 (c 3) λd=>IA 5 d b λd=>LF 4 d λd=>BO .leq d (c 1) λd=>IF d (BS 3 1 (ZR 1 z3) [(0,1,b)] λd=>AP 3 1 8 (cl z3) (c 11) d λd=>L1 (c 3) λe=>IA 5 e b λb=>LF 4 b λb=>BO .sub (c 1) b λb=>a [b,(c 3),d,(c 12),(c 59),(c 60),(c 61)]) (a [(c 1),(c 3),(c 11),(c 12),(c 59),(c 60),(c 61)]))) λb=>a [(b 1),(b 3),(b 11),(b 12),(b 59),(b 60),(b 61)]) λb=>a [(b 1),(b 3),(b 11),(b 12),(b 59),(b 60),(b 61)]) λa=>BO .add (a 61) (I 1) λc=>b [(a 1),(a 3),(a 11),(a 12),(a 59),(a 60),c]) (a [(c 11),(c 12)])) [v1,v3,(.slice none 0 0),(.slice none 0 0),v8,b,(I 0)]) λb=>a [(b 11),(b 12)]) λa=>K (.tuple #[(a 11),(a 12)])
theorem Ti {f:Int→Int} {S:List Int} {i:Nat} {left:Int} (h:i < S.length):gr f (S.drop i) left = if f S[i] = 0 then ((gr f (S.drop (i + 1)) left).1,S[i] :: (gr f (S.drop (i + 1)) left).2) else if f S[i]≤left then (S[i] :: (gr f (S.drop (i + 1)) (left - f S[i])).1,(gr f (S.drop (i + 1)) (left - f S[i])).2) else gr f (S.drop (i + 1)) left:=by
 rw[List.drop_eq_getElem_cons h];rfl
set_option maxHeartbeats 2000000 in
theorem UQ {R:RM} {D E:Chs} {t:List Rg} {sp:List Value} {b cap vb ty:Nat} {sv:Value} {AS:Chs} {S:List Int} {res:Int} {K:Value→M} (hS:S.length < 1000) (hso:SO S sv AS) (hin:∀r∈S,0≤r∧r < t.length) (hlv:∀i (h:i < t.length),0≤(rv t i).AF∧(rv t i).AF≤1000) (hres:-1000≤res∧res≤1000)
  [a2:At D b (C AD (AW eRg t ++ sp))]
  (H:∀v1 v2 A1 A2,SO (gr (λr=>(rv t r).AF) S res).1 v1 A1→SO (gr (λr=>(rv t r).AF) S res).2 v2 A2→J R (A1 ++ (A2 ++ (AS ++ (vb,C ty [.slice (some ⟨b,0,none⟩) t.length cap]) :: D))) (K (.tuple #[v1,v2]))) :
  J R (AS ++ (vb,C ty [.slice (some ⟨b,0,none⟩) t.length cap]) :: D) (rst (I res) (.pointer (some ⟨vb,0,none⟩)) sv K):=by
 unfold rst;refine AH (λvs R' D'=>R' = R∧∃v1 v2 A1 A2,SO (gr (λr=>(rv t r).AF) S res).1 v1 A1∧SO (gr (λr=>(rv t r).AF) S res).2 v2 A2∧D' = A1 ++ (A2 ++ (AS ++ (vb,C ty [.slice (some ⟨b,0,none⟩) t.length cap]) :: D))∧vs = [v1,v2]) (λK1 hK1=>?_) ?_;rotate_left
 ·rintro e R' D' ⟨hR,v1,v2,A1,A2,s1,s2,hD,he⟩;subst hR;rw[hD];clear hD;simp only[List.map,lc,ln,lj,z_t] at he;simp only[he];exact H v1 v2 A1 A2 s1 s2
 obtain⟨sa,sn,sc,hsv⟩:=hso.sl;have hsn:∃a c,sv = .slice a S.length c:=by
  rcases hso with ⟨rfl,rfl,_⟩ | ⟨b',c',sp',_,_,rfl,_⟩
  ·exact⟨_,_,rfl⟩
  ·exact⟨_,_,rfl⟩
 refine Co hsn ?_;refine AH (λvs R' D'=>R' = R∧∃v1 v2 A1 A2,SO (gr (λr=>(rv t r).AF) S res).1 v1 A1∧SO (gr (λr=>(rv t r).AF) S res).2 v2 A2∧D' = A1 ++ (A2 ++ (AS ++ (vb,C ty [.slice (some ⟨b,0,none⟩) t.length cap]) :: D))∧vs = [v1,v2]) (λK2 hK2=>?_) ?_;rotate_left
 ·rintro e R' D' ⟨hR,v1,v2,A1,A2,s1,s2,hD,he⟩;simp only[List.map,lc,ln,lj,z_t] at he;simp only[he];exact hK1 _ _ _ ⟨hR,v1,v2,A1,A2,s1,s2,hD,rfl⟩
 refine jlp (λn vs R' D'=>R' = R∧∃(i:Nat) (left:Int) (ch no:List Int) (v1 v2:Value) (A1 A2:Chs),i≤S.length∧n = S.length - i∧-1000≤left∧left≤1000∧ch.length≤i∧no.length≤i∧SO ch v1 A1∧SO no v2 A2∧gr (λr=>(rv t r).AF) S res = (ch ++ (gr (λr=>(rv t r).AF) (S.drop i) left).1,no ++ (gr (λr=>(rv t r).AF) (S.drop i) left).2)∧D' = A1 ++ (A2 ++ (AS ++ (vb,C ty [.slice (some ⟨b,0,none⟩) t.length cap]) :: D))∧vs = [I left,.pointer (some ⟨vb,0,none⟩),v1,v2,sv,I S.length,I i])
  (n:=S.length) ⟨rfl,0,res,[],[],.slice none 0 0,.slice none 0 0,[],[],by omega,rfl,by omega,by omega,by simp,by simp,.inl ⟨rfl,rfl,rfl⟩,.inl ⟨rfl,rfl,rfl⟩,by simp,rfl,rfl⟩ ?_
 rintro n e R2 D2 K3 ⟨hR,i,left,ch,no,v1,v2,A1,A2,hi,hn,l0,l1,hcl,hnl,s1,s2,hg,hD,he⟩ hK3;subst hR;rw[hD];clear hD;simp only[List.map,lc,ln,lj,z_t] at he;simp only[he];refine jlt (jif (λhc=>?_) (λhc=>?_));rotate_left
 ·have hc:=z_g hc;rw[List.drop_eq_nil_of_le (by omega)] at hg;refine hK2 _ _ _ ⟨rfl,v1,v2,A1,A2,?_,?_,rfl,rfl⟩
  ·rw[hg];show SO (ch ++ []) v1 A1;rw[List.append_nil];exact s1
  ·rw[hg];show SO (no ++ []) v2 A2;rw[List.append_nil];exact s2
 have hc:=z_f hc;have hil:i < S.length:=by omega
 obtain⟨r0,r1⟩:=hin (S[i]) (List.getElem_mem hil);obtain⟨k,hk⟩:∃k:Nat,S[i] = k:=⟨S[i].toNat,by omega⟩;have hkt:k < t.length:=by omega
 obtain⟨v0,v9⟩:=hlv k hkt;have hrl:=Ch hkt;have hst:=Ti (f:=λr=>(rv t r).AF) (S:=S) (i:=i) (left:=left) hil;rw[hk] at hst;rw[hrl] at hst v0 v9;obtain⟨QQ,hQQ⟩:∃QQ:List Value→RM→Chs→Prop,QQ = λvs R' D'=>R' = R2∧∃(left:Int) (ch no:List Int) (v1 v2:Value) (A1 A2:Chs),-1000≤left∧left≤1000∧ch.length≤i + 1∧no.length≤i + 1∧SO ch v1 A1∧SO no v2 A2∧gr (λr=>(rv t r).AF) S res = (ch ++ (gr (λr=>(rv t r).AF) (S.drop (i + 1)) left).1,no ++ (gr (λr=>(rv t r).AF) (S.drop (i + 1)) left).2)∧D' = A1 ++ (A2 ++ (AS ++ (vb,C ty [.slice (some ⟨b,0,none⟩) t.length cap]) :: D))∧vs = [I left,.pointer (some ⟨vb,0,none⟩),v1,v2,sv,I S.length,I i]:=⟨_,rfl⟩
 refine AH QQ (λK4 hK4=>?_) ?_;rotate_left
 ·rw[hQQ];rintro e R' D' ⟨hR,left,ch,no,v1,v2,A1,A2,l0,l1,hcl,hnl,s1,s2,hg,hD,he⟩;subst hR;rw[hD];clear hD;simp only[List.map,lc,ln,lj,z_t] at he;simp only[he];exact Ac ⟨by omega,by omega⟩ (hK3 (S.length - (i + 1)) _ _ _ (by omega) ⟨rfl,i + 1,left,ch,no,v1,v2,A1,A2,by omega,rfl,l0,l1,hcl,hnl,s1,s2,hg,rfl,rfl⟩)
 refine AH QQ (λK5 hK5=>?_) ?_;rotate_left
 ·rw[hQQ];rintro e R' D' ⟨hR,left,ch,no,v1,v2,A1,A2,l0,l1,hcl,hnl,s1,s2,hg,hD,he⟩;simp only[List.map,lc,ln,lj,z_t] at he;simp only[he];exact hK4 _ _ _ (by rw[hQQ];exact⟨hR,left,ch,no,v1,v2,A1,A2,l0,l1,hcl,hnl,s1,s2,hg,hD,rfl⟩)
 rcases hso with ⟨e0,_,_⟩ | ⟨b',c',sp',hc',_,rfl,rfl⟩
 ·rw[e0] at hil;exact absurd hil (by simp)
 refine Bc hil (jl (v:=I k) (by rw[Nat.zero_add,Nat.mul_one,List.getElem?_append_left (by simpa using hil),List.getElem?_map,List.getElem?_eq_getElem hil,hk];rfl) ?_);refine AH QQ (λK6 hK6=>?_) ?_;rotate_left
 ·rw[hQQ];rintro e R' D' ⟨hR,left,ch,no,v1,v2,A1,A2,l0,l1,hcl,hnl,s1,s2,hg,hD,he⟩;simp only[List.map,lc,ln,lj,z_t] at he;simp only[he];exact hK5 _ _ _ (by rw[hQQ];exact⟨hR,left,ch,no,v1,v2,A1,A2,l0,l1,hcl,hnl,s1,s2,hg,hD,rfl⟩)
 refine jl (v:=.slice (some ⟨b,0,none⟩) t.length cap) rfl (Bc hkt (jl (v:=I (t[k]).AF) (by rw[Nat.zero_add];exact BT (f:=4) hkt rfl) (jeq (jif (λhq=>?_) (λhq=>?_)))))
 ·have hq:=eq_of_beq hq;rw[if_pos hq] at hst;rw[hst] at hg;refine jbs (cs:=[I (k:Int)]) rfl rfl λbs=>?_
  refine Au (List.Perm.cons _ (List.perm_append_comm_assoc A1 A2 _)) (FU s2 (by omega) λv2' A2' s2'=>?_);refine Au (List.perm_append_comm_assoc A2' A1 _) ?_;exact hK6 _ _ _ (by rw[hQQ];exact⟨rfl,left,ch,no ++ [(k:Int)],v1,v2',A1,A2',l0,l1,by omega,by simp;omega,s1,s2',by rw[hg];simp,rfl,rfl⟩)
 have hq:=ne_of_beq_false hq;rw[if_neg hq] at hst;refine jl (v:=.slice (some ⟨b,0,none⟩) t.length cap) rfl (Bc hkt (jl (v:=I (t[k]).AF) (by rw[Nat.zero_add];exact BT (f:=4) hkt rfl) (jle (jif (λhp=>?_) (λhp=>?_)))))
 ·have hp:=z_f hp;rw[if_pos hp] at hst;rw[hst] at hg;refine jbs (cs:=[I (k:Int)]) rfl rfl λbs=>?_
  refine FU s1 (by omega) λv1' A1' s1'=>?_
  refine jl (v:=.slice (some ⟨b,0,none⟩) t.length cap) rfl (Bc hkt (jl (v:=I (t[k]).AF) (by rw[Nat.zero_add];exact BT (f:=4) hkt rfl) (DE ⟨by omega,by omega⟩ ?_)));exact hK6 _ _ _ (by rw[hQQ];exact⟨rfl,left - (t[k]).AF,ch ++ [(k:Int)],no,v1',v2,A1',A2,by omega,by omega,by simp;omega,by omega,s1',s2,by rw[hg];simp,rfl,rfl⟩)
 ·have hp:=z_g hp;rw[if_neg hp] at hst;rw[hst] at hg;exact hK6 _ _ _ (by rw[hQQ];exact⟨rfl,left,ch,no,v1,v2,A1,A2,l0,l1,by omega,by omega,s1,s2,hg,rfl,rfl⟩)
end Go.Lf
end
section
namespace Go.Lf
open Go Sm
theorem PR {f:Int→Int} {l:List Int} {K:Nat} {n0:Int} (hk:∀x∈l,n0≤f x∧f x < n0 + K):∀i,i≤l.length→(srt f (l.take i) K n0).length = i∧∀y∈srt f (l.take i) K n0,y∈l:=by
 intro i hi;induction i with
 | zero=>rw[List.take_zero,FP];exact⟨rfl,λy hy=>by cases hy⟩
 | succ i ih=>
  obtain⟨q1,q2⟩:=ih (by omega);have hm:=List.getElem_mem (l:=l) (n:=i) (by omega);rw[List.take_succ_eq_append_getElem (by omega),FH K n0 (hk _ hm).1 (hk _ hm).2];unfold Ka;refine⟨?_,λy hy=>?_⟩
  ·have:∀s:List Int,(s.filter λr=>decide (f r≤f l[i])).length + (s.filter λr=>decide (f l[i] < f r)).length = s.length:=λs=>by
    induction s with
    | nil=>rfl
    | cons a s ih=>
     rw[List.filter_cons,List.filter_cons];by_cases c:f a≤f l[i]
     ·rw[if_pos (by simpa using c),if_neg (by simp<;>omega)];simp;omega
     ·rw[if_neg (by simpa using c),if_pos (by simp<;>omega)];simp;omega
   have:=this (srt f (l.take i) K n0);rw[List.length_append,List.length_cons];omega
  ·rcases List.mem_append.1 hy with hy | hy
   ·exact q2 y (List.mem_filter.1 hy).1
   ·rcases List.mem_cons.1 hy with rfl | hy
    ·exact hm
    ·exact q2 y (List.mem_filter.1 hy).1
set_option maxHeartbeats 2000000 in
theorem Ik {R:RM} {D:Chs} {t:List Rg} {sp:List Value} {b cap:Nat} {hv:Value} {held:List Int} (res:Int) (hl:t.length < 1000000) (hh:B9 R hv held) (hhl:held.length < 1000000) (hres:-1000≤res∧res≤1000) [a:At D b (C AD (AW eRg t ++ sp))]
  (hokc:Ro FJ [.slice (some ⟨b,0,none⟩) t.length cap] (.bool (Ay t)) R D) :
  Mk Em [.slice (some ⟨b,0,none⟩) t.length cap,I res,hv] R D (λv N=>∃v1 v2 A1 A2,SO (AX t res held).1 v1 A1∧SO (AX t res held).2 v2 A2∧v = .tuple #[v1,v2]∧N = A1 ++ A2):=by
 refine Ij λF=>?_
 unfold El;refine ja λvb=>jl (v:=.slice (some ⟨b,0,none⟩) t.length cap) rfl (V4 hokc (E:=(vb,C 23 [.slice (some ⟨b,0,none⟩) t.length cap]) :: F) (List.perm_middle (l₁:=D) (l₂:=F)).symm ?_)
 refine jnt (jif (λh0=>?_) (λh0=>?_))
 ·have h0:Ay t = false:=by simpa using h0
  refine CW [] ?_;have e:AX t res held = ([],[]):=by unfold AX;rw[if_neg (by rw[h0];decide)]
  rw[e];exact⟨_,_,[],[],.inl ⟨rfl,rfl,rfl⟩,.inl ⟨rfl,rfl,rfl⟩,rfl,rfl⟩
 have hok:Ay t = true:=by simpa using h0
 have T:=BI.1 hok;have n1:=T.n1;have row:∀i (h:i < t.length),1≤i→GI i (t[i]):=λi h h1=>by
  have:=T.row i (by omega) (by omega);rwa [Ch h] at this
 have edge0:∀h:0 < t.length,t[0] = Cs:=λh=>by
  have:=T.e;rwa [show (0:Int) = ((0:Nat):Int) from rfl,Ch h] at this
 have hlv:∀i (h:i < t.length),0≤(rv t i).AF∧(rv t i).AF≤16:=λi h=>by
  rw[Ch h];by_cases c:i = 0
  ·subst c;rw[edge0 h];decide
  ·have q:=row i h (by omega);have q1:=q.l0;have q2:=q.l1;have q3:=q.t1;omega
 have hcl:=KH (held:=held) t 0;have hcm:∀r∈Bw held 0 t,0≤r∧r < t.length:=λr hr=>by
  obtain⟨h1,h2,_⟩:=NZ t 0 r hr;omega
 have fin:∀(S:List Int) (sv:Value) (AS:Chs),S = srt (λr=>(rv t r).AF) (Bw held 0 t) 17 0→SO S sv AS→S.length < 1000→(∀r∈S,0≤r∧r < t.length)→
   J R (AS ++ (vb,C 23 [.slice (some ⟨b,0,none⟩) t.length cap]) :: (D ++ F)) (rst (I res) (.pointer (some ⟨vb,0,none⟩)) sv (ED R F (λv _ A=>∃N,A = N ++ D∧∃v1 v2 A1 A2,SO (AX t res held).1 v1 A1∧SO (AX t res held).2 v2 A2∧v = .tuple #[v1,v2]∧N = A1 ++ A2))):=λS sv AS hS so hSl hin=>by
  refine UQ (E:=[]) hSl so hin (λi h=>by have:=hlv i h;omega) hres λv1 v2 A1 A2 s1 s2=>?_
  rw[hS,QB hok,LW hok] at s1 s2;refine Au (D':=(A1 ++ A2) ++ (AS ++ (vb,C 23 [.slice (some ⟨b,0,none⟩) t.length cap]) :: (D ++ F))) (by rw[List.append_assoc]) ?_;exact CW (A1 ++ A2) (s:=⟨List.Perm.refl _⟩) (x:=⟨AS ++ [(vb,C 23 [.slice (some ⟨b,0,none⟩) t.length cap])],by simp⟩) ⟨v1,v2,A1,A2,s1,s2,rfl,rfl⟩
 refine Tf (by omega) hh hhl (λi h hk=>?_) λe lv A so he=>?_
 ·by_cases c:i = 0
  ·subst c;rw[edge0 h] at hk;cases hk
  ·have q:=row i h (by omega);have q2:=q.t0;have q3:=q.t1;omega
 simp only[List.map,lc,ln,lj,z_t] at he;simp only[he];rcases so with ⟨e0,rfl,rfl⟩ | ⟨lb,lc,lsp,hlc,hlsp,rfl,rfl⟩
 ·refine jro (Pl _) ?_;refine fin [] _ [] ?_ (.inl ⟨rfl,rfl,rfl⟩) (by simp) (λr hr=>by cases hr);rw[e0,FP]
 ·have hk:∀x∈Bw held 0 t,(0:Int)≤(rv t x).AF∧(rv t x).AF < 0 + (17:Nat):=λx hx=>by
   obtain⟨h1,h2⟩:=hcm x hx;obtain⟨k,rfl⟩:∃k:Nat,x = k:=⟨x.toNat,by omega⟩;have:=hlv k (by omega);omega
  obtain⟨q1,q2⟩:=PR (f:=λr=>(rv t r).AF) hk _ (z_n _);rw[List.take_length] at q1 q2;refine jc (A:=(lb,C AZ ((Bw held 0 t).map I ++ lsp)) :: ((vb,C 23 [.slice (some ⟨b,0,none⟩) t.length cap]) :: (D ++ F))) (F:=[]) (s:=⟨by simp⟩) (Lz (fn:=33) (cv:=[.pointer (some ⟨vb,0,none⟩)]) (K:=17) (n0:=0) (f:=λr=>(rv t r).AF) (cf:=λx y=>MT (rv t x).AF (rv t y).AF) (by kernel_rfl) (λx y hx hy=>?_) (λx y=>Sw) hk (by omega)) ?_
  ·obtain⟨h1,h2⟩:=hcm x hx;obtain⟨h3,h4⟩:=hcm y hy;obtain⟨k,rfl⟩:∃k:Nat,x = k:=⟨x.toNat,by omega⟩;obtain⟨m,rfl⟩:∃m:Nat,y = m:=⟨y.toNat,by omega⟩;rw[Ch (by omega:k < t.length),Ch (by omega:m < t.length)];exact QC (by omega) (by omega)
  rintro v R3 A _ ⟨hR,rfl,rfl⟩;subst hR;refine Au (D':=[(lb,C AZ ((srt (λr=>(rv t r).AF) (Bw held 0 t) 17 0).map I ++ lsp))] ++ (vb,C 23 [.slice (some ⟨b,0,none⟩) t.length cap]) :: (D ++ F)) (by simp) ?_;exact fin _ _ _ rfl (.inr ⟨lb,lc,lsp,by omega,by omega,by rw[q1],rfl⟩) (by omega) (λr hr=>hcm r (q2 r hr))
end Go.Lf
end
section
namespace Sm
theorem Lq {f:Int→Int}:∀(l:List Int) (left:Int),(gr f l left).1.Sublist l∧(∀r∈(gr f l left).1,f r≠0)∧(gr f l left).2.Sublist l∧∀r∈(gr f l left).2,f r = 0
 | [],left=>⟨List.Sublist.refl _,(λr h=>by cases h),List.Sublist.refl _,λr h=>by cases h⟩
 | r :: l,left=>by
  unfold gr;split
  ·rename_i h;obtain⟨h1,h2,h3,h4⟩:=Lq (f:=f) l left;exact⟨h1.cons r,h2,h3.cons_cons r,λx hx=>(List.mem_cons.1 hx).elim (λe=>e▸h) (h4 x)⟩
  ·rename_i h;split
   ·obtain⟨h1,h2,h3,h4⟩:=Lq (f:=f) l (left - f r);exact⟨h1.cons_cons r,λx hx=>(List.mem_cons.1 hx).elim (λe=>e▸h) (h2 x),h3.cons r,h4⟩
   ·obtain⟨h1,h2,h3,h4⟩:=Lq (f:=f) l left;exact⟨h1.cons r,h2,h3.cons r,h4⟩
theorem Lh {f:Int→Int}:∀(l:List Int) (left:Int),(gr f l left).1 = []∨((gr f l left).1.map f).sum≤left
 | [],left=>.inl rfl
 | r :: l,left=>by
  unfold gr;split
  ·exact Lh (f:=f) l left
  ·split
   ·rename_i h;right;rcases Lh (f:=f) l (left - f r) with e | e
    ·dsimp only;rw[e];simpa using h
    ·dsimp only;rw[List.map_cons,List.sum_cons];omega
   ·exact Lh (f:=f) l left
end Sm
end
section
namespace Go.Lf
open Go Sm
theorem MJ {held:List Int}:∀(t:List Rg) (i:Nat),∀r∈Bw held i t,∃k:Nat,r = k∧i≤k∧∃h:k - i < t.length,Bo held k (t[k - i]) = true
 | [],i,r,h=>by cases h
 | x :: t,i,r,h=>by
  rw[EH _ i x t rfl] at h;rcases List.mem_append.1 h with h | h
  ·split at h
   ·rename_i hc;refine⟨i,List.mem_singleton.1 h,z_n _,by simp,?_⟩;simpa using hc
   ·cases h
  ·obtain⟨k,h1,h2,h3,h4⟩:=MJ t (i + 1) r h;have e:k - i = (k - (i + 1)) + 1:=by omega
   refine⟨k,h1,by omega,by simp;omega,?_⟩;simp only[e,List.getElem_cons_succ];exact h4
structure Tkn (t:List Rg) (held:List Int) (r:Int) (k:Nat):Prop where
 e:r = k
 k1:1≤k
 lt:k < t.length
 kind:(rv t k).kind = 3
 dead:(rv t k).AF < (rv t k).top - AG k
 nh:¬ r∈held
structure ChP (t:List Rg) (res:Int) (held:List Int) (C:List Int × List Int):Prop where
 a:∀r∈C.1,∃k,Tkn t held r k∧(rv t k).AF≠0
 b:∀r∈C.2,∃k,Tkn t held r k∧(rv t k).AF = 0
 up:C.1.Pairwise λa b=>(rv t a).AF≤(rv t b).AF
 sum:C.1 = []∨(C.1.map λr=>(rv t r).AF).sum≤res
 l1:C.1.length≤12
 l2:C.2.length≤12
theorem chP {t:List Rg} {res:Int} {held:List Int}:ChP t res held (AX t res held):=by
 by_cases hok:Ay t = true;rotate_left
 ·have e:AX t res held = ([],[]):=by unfold AX;rw[if_neg hok]
  rw[e];exact⟨λr h=>(by cases h),λr h=>(by cases h),List.Pairwise.nil,.inl rfl,Nat.zero_le _,Nat.zero_le _⟩
 have T:=BI.1 hok;have n0:=T.n0;have n1:=T.n1;rw[← LW hok];have hm:∀r∈srt (λr=>(rv t r).AF) (Bw held 1 t.tail) 17 0,∃k,Tkn t held r k:=by
  intro r hr;have hr' : r∈Bw held 1 t.tail:=by
   have:∀(k:Nat) (n:Int),r∈srt (λr=>(rv t r).AF) (Bw held 1 t.tail) k n→r∈Bw held 1 t.tail:=by
    intro k;induction k with
    | zero=>intro n h;cases h
    | succ k ih=>
     intro n h;unfold srt at h;rcases List.mem_append.1 h with h | h
     ·exact (List.mem_filter.1 h).1
     ·exact ih _ h
   exact this _ _ hr
  obtain⟨k,rfl,h2,h3,h4⟩:=MJ _ _ _ hr';rw[List.length_tail] at h3;have e:t.tail[k - 1]'(by rw[List.length_tail];exact h3) = rv t k:=by
   rw[Ch (by omega:k < t.length),List.getElem_tail];congr 1;omega
  rw[e] at h4;unfold Bo at h4;simp only[z_b,beq_iff_eq,z_d,Bool.not_eq_true'] at h4;exact⟨k,rfl,h2,by omega,h4.1.1.1,h4.1.2,by simpa using h4.2⟩
 have hl:(srt (λr=>(rv t r).AF) (Bw held 1 t.tail) 17 0).length≤12:=by
  have h1:=KH (held:=held) t.tail 1;rw[List.length_tail] at h1;have hk:∀x∈Bw held 1 t.tail,0≤(rv t x).AF∧(rv t x).AF < 0 + (17:Nat):=by
   intro x hx;obtain⟨k,rfl,h2,h3,_⟩:=MJ _ _ _ hx;rw[List.length_tail] at h3;have R:=T.row k (by omega) (by omega);have:=R.l0;have:=R.l1;have:=R.t1;exact⟨R.l0,by omega⟩
  obtain⟨q,_⟩:=PR (f:=λr=>(rv t r).AF) hk _ (z_n _);rw[List.take_length] at q;rw[q];omega
 obtain⟨s1,s2,s3,s4⟩:=Lq (f:=λr=>(rv t r).AF) (srt (λr=>(rv t r).AF) (Bw held 1 t.tail) 17 0) res;have hn:=GD (f:=λr=>(rv t r).AF) (l:=Bw held 1 t.tail) 17 0;refine⟨λr hr=>?_,λr hr=>?_,hn.sublist s1,Lh _ _,Nat.le_trans s1.length_le hl,Nat.le_trans s3.length_le hl⟩
 ·obtain⟨k,hk⟩:=hm r (s1.subset hr);refine⟨k,hk,?_⟩;have:=s2 r hr;rwa [hk.e] at this
 ·obtain⟨k,hk⟩:=hm r (s3.subset hr);refine⟨k,hk,?_⟩;have:=s4 r hr;rwa [hk.e] at this
set_option maxHeartbeats 1000000 in
theorem Gp {R:RM} {v:Value} (hc:Cod R v):Fn P Dh [v] R [] (λx R' A=>∃(t:List Rg) (tb tc:Nat) (tsp:List Value) (n:Int) (held:List Int) (hv:Value),x = .tuple #[.slice (some ⟨tb,0,none⟩) t.length tc,I n,hv]∧1≤t.length∧t.length≤12∧-4≤n∧n≤55∧held.length≤2∧B9 R' hv held∧A = [(tb,C AD (AW eRg t ++ tsp))]):=by
 refine FT λF=>?_
 unfold Di;obtain⟨n,hf⟩:=hc;refine jc (A:=[]) (RV hf) ?_;rintro _ R1 _ _ ⟨hR,rb,v',rfl,rfl,hb⟩;subst hR;refine jc (A:=[(rb,rdO v' 0)]) (O4 hb (by decide)) ?_;rintro _ R2 _ hR2 ⟨t,tb,tc,tsp,m2,h1,h2,h3,h4,h5,rfl,rfl⟩;have hb2:=hb.le hR2;refine jpk hb2 ⟨by omega,by omega⟩ λy y0 y1=>DE ⟨by omega,by omega⟩ ?_
 refine AH (λvs R' D'=>R2.le R'∧∃held hv,held.length≤2∧B9 R' hv held∧D' = (tb,C AD (AW eRg t ++ tsp)) :: F∧vs = [.slice (some ⟨tb,0,none⟩) t.length tc,I (y - 4),hv]) (λK hK=>?_) ?_
 ·refine jpk hb2 ⟨by omega,by omega⟩ λz _ _=>jeq (jif (λ_=>?_) (λ_=>?_))
  ·refine jln (Ac ⟨by omega,by omega⟩ (jpk hb2 ⟨by omega,by omega⟩ λu u0 u1=>jpk hb2 ⟨by omega,by omega⟩ λw w0 w1=>?_));refine jbs (cs:=[I u,I w]) rfl rfl λb=>?_
   refine jk2 (F:=F) tb b ?_;refine Au (D':=[] ++ ((tb,C AD (AW eRg t ++ tsp)) :: (b,C 3 [I u,I w]) :: F)) (List.Perm.refl _) ?_;refine jas (l:=[]) (l2:=[u,w]) (.inl ⟨rfl,rfl,rfl⟩) rfl (by simp) (BG.held (t:=3) (cs:=[I u,I w]) (o:=0) (n:=2 * 1) (z_n 2)) λv2 A2 so=>?_
   refine Es so λR3 hR3 hi=>?_
   refine jk1 (F:=F) tb ?_;exact hK _ _ _ ⟨hR3,[u,w],v2,by simp,hi,rfl,rfl⟩
  ·refine jk1 (F:=F) tb ?_;exact hK _ _ _ ⟨RM.le.refl _,[],_,by simp,.inl ⟨rfl,rfl,rfl⟩,rfl,rfl⟩
 rintro e R3 D3 ⟨hR3,held,hv,q1,q2,hD,he⟩;rw[hD];clear hD;simp only[List.map,lj,z_t] at he;simp only[he];exact BR (A:=[(tb,C AD (AW eRg t ++ tsp))]) (hR2.trans hR3) ⟨t,tb,tc,tsp,_,held,hv,rfl,h1,h2,by omega,by omega,q1,q2,rfl⟩
end Go.Lf
end
section
namespace Go.Lf
open Go Sm
end Go.Lf
end
section
namespace Go.Lf
open Go Sm
theorem PW:P.underlying 48 = some (.map 3 4):=by kernel_rfl
theorem IZ:P.underlying 3 = some (.int .i64):=by kernel_rfl
theorem Vb (w:World):(zeroValue 4).run P w = .ok (.bool false) w:=by kernel_rfl
def MpI (o:Obj) (q:Int→Prop):Prop:=∃es clock,o = .map es clock∧(∀e∈es.toList,∃x,e.key = I x∧q x∧e.val = .bool true)∧∀x,q x→∃e∈es.toList,e.key = I x
section rules
variable {R:RM} {D:Chs} {k:Value→M}
theorem jXr {s:Sem Value} (H:∀h,St h R D→∀w:World,w.heap = h→∃v w',s.run P w = .ok v w'∧Ax w w'∧∃D',St w'.heap R D'∧J R D' (k v)):J R D (X P s k):=by
 intro h hs w hw;have:=H h hs w hw;generalize s.run P w = r at this;obtain⟨v,w',rfl,h1,D',h2,h3⟩:=this;exact⟨h1,h3 _ h2⟩
theorem VV (H:∀b o,MpI o (λ_=>False)→J R ((b,o) :: D) (k (.map (some b)))):J R D (X P (Instr.makeMap 48 none) k):=by
 intro h hs w hw;rw[show (Instr.makeMap 48 none).run P w = .ok (.map (some w.heap.size)) (w.alloc (.map #[] 0)) from rfl];subst hw;exact⟨⟨rfl,rfl⟩,H _ _ ⟨#[],0,rfl,by simp,λ_ hx=>hx.elim⟩ _ hs.push⟩
theorem PX {es:Array MapEntry} {q:Int→Prop} (h:∀e∈es.toList,∃x,e.key = I x∧q x∧e.val = .bool true):∀e∈es.toList,MapKept.IsKey (.int .i64) e.key:=λe he=>by
 obtain⟨x,hx,_⟩:=h e he;rw[hx];rfl
theorem UG {w:World} {b:Nat} {o:Obj} {q:Int→Prop} {x:Int} {t:Bool} (hb:w.heap[b]? = some o) (hm:MpI o q) (ht:q x↔t = true):(Instr.lookup 48 (.map (some b)) (I x) false).run P w = .ok (.bool t) w:=by
 obtain⟨es,clock,rfl,h1,h2⟩:=hm;have hk:MapKept.IsKey (.int .i64) (I x):=rfl;have run:∃c,(Instr.lookup 48 (.map (some b)) (I x) false).run P w = .ok (.bool c) w∧(c = true↔q x):=by
  rcases MapKept.findNow_spec hk es.toList 0 (PX h1) with ⟨f1,f2⟩ | ⟨j,e0,f1,f2,f3⟩
  ·refine⟨false,?_,⟨(λh=>by cases h),λhq=>?_⟩⟩
   ·simp[Instr.lookup,run_underlying PW,MapKept.run_getObj_map hb,MapKept.run_checkKey IZ hk,MapKept.run_findKey IZ f1,Vb,Result.andThen]
   ·obtain⟨e,he,hx⟩:=h2 x hq;exact absurd hx (f2 e he)
  ·obtain⟨y,hy,hq,hv⟩:=h1 e0 (List.mem_of_getElem? f2);have:y = x:=by
    have:=hy.symm.trans f3;exact (Value.int.inj this).2
   subst this;refine⟨true,?_,⟨λ_=>hq,λ_=>rfl⟩⟩;simp[Instr.lookup,run_underlying PW,MapKept.run_getObj_map hb,MapKept.run_checkKey IZ hk,MapKept.run_findKey IZ f1,hv,Result.andThen]
 obtain⟨c,hr,hc⟩:=run;have:c = t:=by
  have:=hc.trans ht;cases c<;>cases t<;>simp_all
 subst this;exact hr
theorem jlk {b:Nat} {o:Obj} {q:Int→Prop} {x:Int} {t:Bool} [a:At D b o] (hm:MpI o q) (ht:q x↔t = true) (H:J R D (k (.bool t))):J R D (X P (Instr.lookup 48 (.map (some b)) (I x) false) k):=
 @jXr R D k _ λh hs w hw=>⟨_,_,UG (by rw[hw];exact (hs.at_ b _ a.m).1) hm ht,Ax.refl _,D,by rw[hw];exact hs,H⟩
theorem Ug {w:World} {b:Nat} {o:Obj} {q:Int→Prop} {x:Int} (hb:w.heap[b]? = some o) (hm:MpI o q):∃o',MpI o' (λy=>q y∨y = x)∧(do Instr.mapUpdate 48 (.map (some b)) (I x) (.bool true);pure undef).run P w = .ok U (ChangeMaps.setBlock w b o')∧(∀b',b'≠b→(ChangeMaps.setBlock w b o').heap[b']? = w.heap[b']?)∧(ChangeMaps.setBlock w b o').heap[b]? = some o':=by
 obtain⟨es,clock,rfl,h1,h2⟩:=hm;have hk:MapKept.IsKey (.int .i64) (I x):=rfl;have run:∃es' clock',(Instr.mapUpdate 48 (.map (some b)) (I x) (.bool true)).run P w = .ok () (ChangeMaps.setBlock w b (.map es' clock'))∧MpI (.map es' clock') (λy=>q y∨y = x):=by
  rcases MapKept.findNow_spec hk es.toList 0 (PX h1) with ⟨f1,f2⟩ | ⟨j,e0,f1,f2,f3⟩
  ·refine⟨es.push ⟨I x,.bool true,clock⟩,clock + 1,?_,_,_,rfl,?_,?_⟩
   ·simp[Instr.mapUpdate,run_underlying PW,MapKept.run_getObj_map hb,MapKept.run_checkKey IZ hk,MapKept.run_findKey IZ f1,MapKept.run_setObj_map _ hb,Result.andThen,ChangeMaps.setBlock]
   ·intro e he;simp only[Array.toList_push,List.mem_append,List.mem_singleton] at he;rcases he with he | rfl
    ·obtain⟨y,a1,a2,a3⟩:=h1 e he;exact⟨y,a1,.inl a2,a3⟩
    ·exact⟨x,rfl,.inr rfl,rfl⟩
   ·rintro y (hy | rfl)
    ·obtain⟨e,he,a1⟩:=h2 y hy;exact⟨e,by simp only[Array.toList_push,List.mem_append];exact .inl he,a1⟩
    ·exact⟨⟨I y,.bool true,clock⟩,by simp,rfl⟩
  ·have hj:es[j]? = some e0:=by rw[← Array.getElem?_toList];exact f2
   have hlt:j < es.size:=(Array.getElem?_eq_some_iff.1 hj).1;obtain⟨x0,hx0,hq0,hv0⟩:=h1 e0 (List.mem_of_getElem? f2);have hx:x0 = x:=(Value.int.inj (hx0.symm.trans f3)).2;subst hx;refine⟨es.modify j (λe=>{ e with key:=I x0,val:=.bool true }),clock,?_,_,_,rfl,?_,?_⟩
   ·simp[Instr.mapUpdate,run_underlying PW,MapKept.run_getObj_map hb,MapKept.run_checkKey IZ hk,MapKept.run_findKey IZ f1,hj,f3,MapKept.run_keyThatStays hk,MapKept.run_setObj_map _ hb,Result.andThen,ChangeMaps.setBlock]
   ·intro e he;obtain⟨i,hi⟩:=List.mem_iff_getElem?.1 he;rw[Array.getElem?_toList,Array.getElem?_modify] at hi;split at hi
    ·rename_i hij;subst hij;rw[hj] at hi;cases hi;exact⟨x0,rfl,.inr rfl,rfl⟩
    ·obtain⟨y,a1,a2,a3⟩:=h1 e (by rw[← Array.getElem?_toList] at hi;exact List.mem_of_getElem? hi);exact⟨y,a1,.inl a2,a3⟩
   ·intro y hy;have hy:q y:=by rcases hy with hy | rfl;exact hy;exact hq0
    obtain⟨e,he,a1⟩:=h2 y hy;obtain⟨i,hi⟩:=List.mem_iff_getElem?.1 he;rw[Array.getElem?_toList] at hi;by_cases hij:j = i
    ·subst hij;rw[hj] at hi;cases hi;exact⟨{ e0 with key:=I x0,val:=.bool true },List.mem_of_getElem? (i:=j) (by rw[Array.getElem?_toList,Array.getElem?_modify,if_pos rfl,hj];rfl),by show I x0 = I y;rw[← hx0];exact a1⟩
    ·exact⟨e,List.mem_of_getElem? (i:=i) (by rw[Array.getElem?_toList,Array.getElem?_modify,if_neg hij];exact hi),a1⟩
 obtain⟨es',clock',hr,hq⟩:=run;have hst:=MapKept.heap_set (o':=.map es' clock') hb;exact⟨_,hq,by rw[Sem.run_bind,hr];rfl,hst.2,hst.1⟩
theorem jmu {b:Nat} {o:Obj} {E:Chs} {q:Int→Prop} {x:Int} [t:Tk D b o E] (hm:MpI o q) (H:∀o',MpI o' (λy=>q y∨y = x)→J R ((b,o') :: E) (k U)):J R D (X P (do Instr.mapUpdate 48 (.map (some b)) (I x) (.bool true);pure undef) k):=
 @jXr R D k _ λh hs w hw=>(Ug (w:=w) (x:=x) (by rw[hw];exact ((hs.perm t.p).at_ b _ (.head _)).1) hm).elim λo' h=>⟨U,_,h.2.1,⟨rfl,rfl⟩,_,(hs.perm t.p).turn (b:=b) (o:=o) (o':=o') h.2.2.2 (by rw[← hw];exact h.2.2.1),H _ h.1⟩
end rules
end Go.Lf
end
section
namespace Go.Lf
open Go Sm
set_option maxHeartbeats 1000000 in
theorem Km (x:Rg) {r:Int} (r0:0≤r) (r1:r < 12):Pu Fr [.agg (eRg x).toArray,I r] (.bool (Gs r x)):=by
 intro R;refine Kl λF=>?_
 unfold Fj;have hb:AG r = 16 * r:=CZ r0 r1;refine ja λb=>jp (K0 r) ?_
 rw[hb];have key:Gs r x = true↔(¬ x.kind < 1∧¬ x.kind > 4∧¬ x.top < 16 * r∧¬ x.top > 16 * r + 16∧¬ x.Ah < 16 * r∧¬ x.Ah > x.top∧¬ x.AF < 0∧¬ x.AF > x.top - 16 * r∧¬ (x.kind = 1∧x.top≠16 * r))∧(if x.kind = 2 then 0≤x.AK∧x.AK≤3 else x.AK = -1):=by
  unfold Gs;rw[hb];simp only[z_b,Bool.or_eq_true,Bool.not_eq_true',z_d,beq_iff_eq,beq_eq_false_iff_ne];by_cases h2:x.kind = 2
  ·rw[if_pos h2,h2];simp;omega
  ·rw[if_neg h2,show (x.kind == 2) = false from beq_eq_false_iff_ne.2 h2];by_cases ho:0≤x.AK
   ·simp[ho];omega
   ·simp[ho];omega
 have fin:∀{c:Bool} {D:Chs} [Sf D F],c = Gs r x→J R D (ED R F (λv' _ _=>v' = .bool (Gs r x)) (.bool c)):=λ{c D} _ hc=>BR (A:=[]) (RM.le.refl R) (by rw[hc])
 refine jor [.pointer (some ⟨b,0,none⟩),I (16 * r)] ((decide (x.kind < 1)) || (decide (x.kind > 4))) (λK' hK'=>?_) (λe c u ho he=>?_)
 ·refine jl (v:=I x.kind) rfl (jlt (BW (λh1=>?_) (λh1=>?_)))
  ·refine jl (v:=I x.kind) rfl (jgr (hK' _ _ _ (h1▸Ar) (by rw[h1,Bool.false_or])))
  ·exact hK' _ _ _ (h1▸B7) (by rw[h1,Bool.true_or])
 simp only[List.map,lc,ln,lj,z_t] at he;simp only[he];obtain⟨B1,hB1⟩:∃B1,B1 = (decide (x.kind < 1) || decide (x.kind > 4)):=⟨_,rfl⟩;rw[← hB1] at ho;refine jor [.pointer (some ⟨b,0,none⟩),I (16 * r)] ((B1) || (decide (x.top < 16 * r))) (λK' hK'=>?_) (λe c u ho he=>?_)
 ·rw[ho];refine BW (λh1=>?_) (λh1=>?_)
  ·refine jl (v:=I x.top) rfl (jlt (hK' _ _ _ (h1▸Ar) (by rw[h1,Bool.false_or])))
  ·exact hK' _ _ _ (h1▸B7) (by rw[h1,Bool.true_or])
 simp only[List.map,lc,ln,lj,z_t] at he;simp only[he];obtain⟨B2,hB2⟩:∃B2,B2 = (B1 || decide (x.top < 16 * r)):=⟨_,rfl⟩;rw[← hB2] at ho;refine jor [.pointer (some ⟨b,0,none⟩),I (16 * r)] ((B2) || (decide (x.top > 16 * r + 16))) (λK' hK'=>?_) (λe c u ho he=>?_)
 ·rw[ho];refine BW (λh1=>?_) (λh1=>?_)
  ·refine jl (v:=I x.top) rfl (Ac ⟨by omega,by omega⟩ (jgr (hK' _ _ _ (h1▸Ar) (by rw[h1,Bool.false_or]))))
  ·exact hK' _ _ _ (h1▸B7) (by rw[h1,Bool.true_or])
 simp only[List.map,lc,ln,lj,z_t] at he;simp only[he];obtain⟨B3,hB3⟩:∃B3,B3 = (B2 || decide (x.top > 16 * r + 16)):=⟨_,rfl⟩;rw[← hB3] at ho;refine jor [.pointer (some ⟨b,0,none⟩),I (16 * r)] ((B3) || (decide (x.Ah < 16 * r))) (λK' hK'=>?_) (λe c u ho he=>?_)
 ·rw[ho];refine BW (λh1=>?_) (λh1=>?_)
  ·refine jl (v:=I x.Ah) rfl (jlt (hK' _ _ _ (h1▸Ar) (by rw[h1,Bool.false_or])))
  ·exact hK' _ _ _ (h1▸B7) (by rw[h1,Bool.true_or])
 simp only[List.map,lc,ln,lj,z_t] at he;simp only[he];obtain⟨B4,hB4⟩:∃B4,B4 = (B3 || decide (x.Ah < 16 * r)):=⟨_,rfl⟩;rw[← hB4] at ho;refine jor [.pointer (some ⟨b,0,none⟩),I (16 * r)] ((B4) || (decide (x.Ah > x.top))) (λK' hK'=>?_) (λe c u ho he=>?_)
 ·rw[ho];refine BW (λh1=>?_) (λh1=>?_)
  ·refine jl (v:=I x.Ah) rfl (jl (v:=I x.top) rfl (jgr (hK' _ _ _ (h1▸Ar) (by rw[h1,Bool.false_or]))))
  ·exact hK' _ _ _ (h1▸B7) (by rw[h1,Bool.true_or])
 simp only[List.map,lc,ln,lj,z_t] at he;simp only[he];obtain⟨B5,hB5⟩:∃B5,B5 = (B4 || decide (x.Ah > x.top)):=⟨_,rfl⟩;rw[← hB5] at ho;refine jor [.pointer (some ⟨b,0,none⟩),I (16 * r)] ((B5) || (decide (x.AF < 0))) (λK' hK'=>?_) (λe c u ho he=>?_)
 ·rw[ho];refine BW (λh1=>?_) (λh1=>?_)
  ·refine jl (v:=I x.AF) rfl (jlt (hK' _ _ _ (h1▸Ar) (by rw[h1,Bool.false_or])))
  ·exact hK' _ _ _ (h1▸B7) (by rw[h1,Bool.true_or])
 simp only[List.map,lc,ln,lj,z_t] at he;simp only[he];obtain⟨B6,hB6⟩:∃B6,B6 = (B5 || decide (x.AF < 0)):=⟨_,rfl⟩;rw[← hB6] at ho;have hsub:B6 = false→inR (x.top - 16 * r):=λh=>by
  rw[hB6,hB5,hB4,hB3,hB2] at h;simp only[Bool.or_eq_false_iff,decide_eq_false_iff_not] at h;constructor<;>omega
 refine jor [.pointer (some ⟨b,0,none⟩),I (16 * r)] ((B6) || (decide (x.AF > x.top - 16 * r))) (λK' hK'=>?_) (λe c u ho he=>?_)
 ·rw[ho];refine BW (λh1=>?_) (λh1=>?_)
  ·refine jl (v:=I x.AF) rfl (jl (v:=I x.top) rfl (DE (hsub h1) (jgr (hK' _ _ _ (h1▸Ar) (by rw[h1,Bool.false_or])))))
  ·exact hK' _ _ _ (h1▸B7) (by rw[h1,Bool.true_or])
 simp only[List.map,lc,ln,lj,z_t] at he;simp only[he];rw[ho];refine jif (λh=>fin ?_) (λh=>?_)
 ·symm;rw[Bool.eq_false_iff];intro hk;obtain⟨⟨k1,k2,k3,k4,k5,k6,k7,k8,k9⟩,k10⟩:=key.1 hk;rw[hB6,hB5,hB4,hB3,hB2,hB1] at h;simp only[Bool.or_eq_true,z_d] at h;omega
 rw[hB6,hB5,hB4,hB3,hB2,hB1] at h;simp only[Bool.or_eq_false_iff,decide_eq_false_iff_not] at h;obtain⟨⟨⟨⟨⟨⟨⟨k1,k2⟩,k3⟩,k4⟩,k5⟩,k6⟩,k7⟩,k8⟩:=h;clear ho hsub;refine jan [.pointer (some ⟨b,0,none⟩)] ((x.kind == 1) && (x.top != 16 * r)) (λK' hK'=>?_) (λe c u ho he=>?_)
 ·refine jl (v:=I x.kind) rfl (jeq (Bj (λh1=>?_) (λh1=>?_)))
  ·refine jl (v:=I x.top) rfl (jne (hK' _ _ _ (h1▸Aq) (by rw[h1,Bool.true_and])))
  ·exact hK' _ _ _ (h1▸As) (by rw[h1,Bool.false_and])
 simp only[List.map,lc,ln,lj,z_t] at he;simp only[he];rw[ho];refine jif (λh=>fin ?_) (λh=>?_)
 ·symm;rw[Bool.eq_false_iff];intro hk;simp only[z_b,beq_iff_eq,bne_iff_ne] at h;exact (key.1 hk).1.2.2.2.2.2.2.2.2 h
 have k9:¬ (x.kind = 1∧x.top≠16 * r):=λhh=>by
  rw[show (x.kind == 1) = true from beq_iff_eq.2 hh.1,show (x.top != 16 * r) = true from bne_iff_ne.2 hh.2] at h;cases h
 refine jl (v:=I x.kind) rfl (jeq (jif (λh2=>?_) (λh2=>?_)))
 ·have h2:=eq_of_beq h2;refine jan [] ((decide (x.AK≥0)) && (decide (x.AK≤3))) (λK' hK'=>?_) (λe c u ho he=>?_)
  ·refine jl (v:=I x.AK) rfl (jge (Bj (λh1=>?_) (λh1=>?_)))
   ·refine jl (v:=I x.AK) rfl (jle (hK' _ _ _ (h1▸Aq) (by rw[h1,Bool.true_and])))
   ·exact hK' _ _ _ (h1▸As) (by rw[h1,Bool.false_and])
  simp only[List.map,lc,ln,lj,z_t] at he;simp only[he];rw[ho];refine fin ?_;rw[Bool.eq_iff_iff,key,if_pos h2];simp only[z_b,z_d];exact⟨λh=>⟨⟨k1,k2,k3,k4,k5,k6,k7,k8,k9⟩,h⟩,λh=>h.2⟩
 ·have h2:=ne_of_beq_false h2;refine jl (v:=I x.AK) rfl (jeq (fin ?_));rw[Bool.eq_iff_iff,key,if_neg h2];exact⟨λh=>⟨⟨k1,k2,k3,k4,k5,k6,k7,k8,k9⟩,eq_of_beq h⟩,λh=>beq_iff_eq.2 h.2⟩
end Go.Lf
end
section
namespace Go.Lf
open Go Sm
theorem S5:Pu Mf [] (.agg (eRg Cs).toArray):=by
 intro R;refine Qv λF=>?_
 unfold Md;refine ja λb=>jbd (cs:=eRg Cs) rfl rfl (js (cs':=eRg Cs) rfl rfl (by exact z_n 5) rfl (jla (l:=eRg Cs) (by exact z_n 5) rfl ?_))
 exact BR (A:=[]) (RM.le.refl R) rfl
theorem MpI.iff {o:Obj} {q q' : Int→Prop} (h:MpI o q) (e:∀x,q x↔q' x):MpI o q':=by
 have:q = q':=funext λx=>propext (e x)
 rw[← this];exact h
section
variable {R:RM} {D:Chs} {t:List Rg} {sp:List Value} {b cap:Nat}
set_option maxHeartbeats 1000000 in
theorem Nk (hl:t.length < 1000000) [a:At D b (C AD (AW eRg t ++ sp))]:Ro FJ [.slice (some ⟨b,0,none⟩) t.length cap] (.bool (Ay t)) R D:=by
 refine ND λF=>?_
 unfold IV;have nok:(TOk t→False)→Value.bool false = Value.bool (Ay t):=λh=>by
  cases hh:Ay t
  ·rfl
  ·exact (h (BI.1 hh)).elim
 refine AH (λvs R' D'=>R' = R∧D' = D ++ F∧vs = [.slice (some ⟨b,0,none⟩) t.length cap,.bool ((decide ((t.length:Int) < 2) || decide ((t.length:Int) > 12)) || !(rv t 0 == Cs))]) (λK hK=>?_) ?_
 ·refine jor [.slice (some ⟨b,0,none⟩) t.length cap] ((decide ((t.length:Int) < 2)) || (decide ((t.length:Int) > 12))) (λK' hK'=>?_) (λe c u ho he=>?_)
  ·refine jln (jlt (BW (λh1=>?_) (λh1=>?_)))
   ·refine jln (jgr (hK' _ _ _ (h1▸Ar) (by rw[h1,Bool.false_or])))
   ·exact hK' _ _ _ (h1▸B7) (by rw[h1,Bool.true_or])
  simp only[List.map,lc,ln,lj,z_t] at he;simp only[he];refine AH (λvs R' D'=>R' = R∧D' = D ++ F∧(((decide ((t.length:Int) < 2) || decide ((t.length:Int) > 12)) = false∧∃h:0 < t.length,vs = [.slice (some ⟨b,0,none⟩) t.length cap,.bool false,.pointer (some ⟨b,0 + (0:Int).toNat * 5,none⟩),.agg (eRg (t[0])).toArray])∨((decide ((t.length:Int) < 2) || decide ((t.length:Int) > 12)) = true∧vs = [.slice (some ⟨b,0,none⟩) t.length cap,.bool true,U,U]))) (λK2 hK2=>?_) ?_
  ·rw[ho];refine BW (λh1=>?_) (λh1=>?_)
   ·have h1':=h1;simp only[Bool.or_eq_false_iff,decide_eq_false_iff_not] at h1';have h0:0 < t.length:=by omega
    refine jia (by omega) (by omega) ?_;refine jla (l:=eRg (t[0])) (E6 h0) (Cq (f:=eRg) (w:=5) (λ_=>rfl) h0) ?_;exact hK2 _ _ _ ⟨rfl,rfl,.inl ⟨h1,h0,by rw[h1]⟩⟩
   ·exact hK2 _ _ _ ⟨rfl,rfl,.inr ⟨h1,by rw[h1]⟩⟩
  rintro e2 R2 D2 ⟨hR,hD,h⟩;subst hR;rw[hD];clear hD;rcases h with ⟨h1,h0,he⟩ | ⟨h1,he⟩
  ·simp only[List.map,lc,ln,lj,z_t] at he;simp only[he];refine jff (jp S5 (Ae (jla (l:=eRg (t[0])) (E6 h0) (Cq (f:=eRg) (w:=5) (λ_=>rfl) h0) jev) ?_));refine @V0 (t[0]) Cs _ _ _ _ _ (DU ?_);refine hK _ _ _ ⟨rfl,rfl,?_⟩;rw[h1,Bool.false_or,show rv t 0 = t[0] from Ch h0]
  ·simp only[List.map,lc,ln,lj,z_t] at he;simp only[he];refine jtf (Ae jev (Da ?_));refine hK _ _ _ ⟨rfl,rfl,?_⟩;rw[h1,Bool.true_or]
 rintro e R2 D2 ⟨hR,hD,he⟩;subst hR;rw[hD];clear hD;simp only[List.map,lc,ln,lj,z_t] at he;simp only[he];refine jif (λh0=>?_) (λh0=>?_)
 ·refine BV (nok λT=>?_);have n0:=T.n0;have n1:=T.n1;have e:=T.e;simp only[Bool.or_eq_true,z_d,Bool.not_eq_true',beq_eq_false_iff_ne] at h0;rcases h0 with (h | h) | h
  ·omega
  ·omega
  ·exact h e
 simp only[Bool.or_eq_false_iff,decide_eq_false_iff_not,Bool.not_eq_false',beq_iff_eq] at h0;obtain⟨⟨n0,n1⟩,hedge⟩:=h0;refine @VV _ _ _ λmb o hm=>jln ?_
 refine jlp (λn vs R' D'=>R' = R2∧∃(i:Nat) (o:Obj),D' = (mb,o) :: (D ++ F)∧i≤t.length∧vs = [.map (some mb),.slice (some ⟨b,0,none⟩) t.length cap,I t.length,I i]∧n = t.length - i∧MpI o (λy=>∃k:Nat,1≤k∧k < i∧(rv t k).AK = y)∧(∀k:Nat,1≤k→k < i→GI k (rv t k)∧∀m:Nat,1≤m→m < k→0≤(rv t k).AK→(rv t m).AK≠(rv t k).AK))
  (n:=t.length) ⟨rfl,0,o,rfl,by omega,rfl,rfl,hm.iff λx=>⟨λh=>h.elim,λ⟨k,_,h,_⟩=>by omega⟩,λk h1 h2=>by omega⟩ ?_
 clear hm;rintro n e R' D' K ⟨hR,i,o,hD,hi,he,hn,hm,hinv⟩ hK;subst hR;rw[hD];clear hD;simp only[List.map,lc,ln,lj,z_t] at he;simp only[he];refine jlt (jif (λhc=>?_) (λhc=>?_));rotate_left
 ·have hc:=z_g hc;refine Av [] (G:=D ++ F) (BV ?_);rw[BI.2 ⟨by omega,by omega,hedge,λq q0 q1=>?_,λq s q0 q1 s0 s1 hoo heq=>?_⟩]
  ·have:=(hinv q.toNat (by omega) (by omega)).1;rwa [show ((q.toNat:Nat):Int) = q from by omega] at this
  ·have h1:=(hinv q.toNat (by omega) (by omega)).2 s.toNat (by omega);have h2:=(hinv s.toNat (by omega) (by omega)).2 q.toNat (by omega);rw[show ((q.toNat:Nat):Int) = q from by omega,show ((s.toNat:Nat):Int) = s from by omega] at h1 h2;rcases Int.lt_trichotomy q s with c | c | c
   ·exact absurd heq (h2 (by omega) (by rw[← heq];exact hoo))
   ·exact c
   ·exact absurd heq.symm (h1 (by omega) hoo)
 have hc:=z_f hc;have hil:i < t.length:=by omega
 have hrv:=Ch hil;refine AH (λvs R3 D3=>R3 = R'∧∃o',D3 = (mb,o') :: (D ++ F)∧MpI o' (λy=>∃k:Nat,1≤k∧k < i + 1∧(rv t k).AK = y)∧(∀k:Nat,1≤k→k < i + 1→GI k (rv t k)∧∀m:Nat,1≤m→m < k→0≤(rv t k).AK→(rv t m).AK≠(rv t k).AK)∧vs = [.map (some mb),.slice (some ⟨b,0,none⟩) t.length cap,I t.length,I i]) (λK2 hK2=>?_) ?_;rotate_left
 ·rintro e3 R3 D3 ⟨hR,o',hD,hm',hinv',he⟩;subst hR;rw[hD];clear hD;simp only[List.map,lc,ln,lj,z_t] at he;simp only[he];exact Ac ⟨by omega,by omega⟩ (hK (t.length - (i + 1)) _ _ _ (by omega) ⟨rfl,i + 1,o',rfl,by omega,rfl,rfl,hm',hinv'⟩)
 refine AH (λvs R3 D3=>R3 = R'∧∃o',D3 = (mb,o') :: (D ++ F)∧MpI o' (λy=>∃k:Nat,1≤k∧k < i + 1∧(rv t k).AK = y)∧(∀k:Nat,1≤k→k < i + 1→GI k (rv t k)∧∀m:Nat,1≤m→m < k→0≤(rv t k).AK→(rv t m).AK≠(rv t k).AK)∧vs = [.map (some mb),.slice (some ⟨b,0,none⟩) t.length cap,I t.length,I i]) (λK3 hK3=>?_) ?_;rotate_left
 ·rintro e3 R3 D3 ⟨hR,o',hD,hm',hinv',he⟩;subst hR;rw[hD];clear hD;simp only[List.map,lc,ln,lj,z_t] at he;simp only[he];exact hK2 _ _ _ ⟨rfl,o',rfl,hm',hinv',rfl⟩
 refine Bc hil (Ej hil ?_);refine ja λb13=>js (cs':=eRg (t[i])) rfl rfl (by exact z_n 5) rfl (jeq (jif (λhz=>?_) (λhz=>?_)))
 ·have hz:=eq_of_beq hz;have hz:i = 0:=by omega
  refine jk1 (F:=D ++ F) mb ?_;refine hK3 _ _ _ ⟨rfl,o,rfl,hm.iff λy=>⟨λ⟨k,h1,h2,h3⟩=>by omega,λ⟨k,h1,h2,h3⟩=>by omega⟩,λk h1 h2=>by omega,rfl⟩
 have hz:=ne_of_beq_false hz;have hi1:1≤i:=by omega
 obtain⟨sb,hsb⟩:∃sb:Bool,((∃k:Nat,1≤k∧k < i∧(rv t k).AK = (t[i]).AK)↔sb = true):=by
  by_cases h:∃k:Nat,1≤k∧k < i∧(rv t k).AK = (t[i]).AK
  ·exact⟨true,by simp[h]⟩
  ·exact⟨false,by simp[h]⟩
 refine jor [.map (some mb),.pointer (some ⟨b13,0,none⟩),.slice (some ⟨b,0,none⟩) t.length cap,I t.length,I i] (!Gs i (t[i]) || (decide ((t[i]).AK≥0) && sb)) (λK' hK'=>?_) (λe c u ho he=>?_)
 ·refine jla (l:=eRg (t[i])) (by exact z_n 5) rfl (jp (Km (t[i]) (by omega) (by omega)) (BW (λh1=>?_) (λh1=>?_)))
  ·refine jl (v:=I (t[i]).AK) rfl (jge (Bj (λh2=>?_) (λh2=>?_)))
   ·refine jl (v:=I (t[i]).AK) rfl ?_;refine @jlk _ _ _ mb o _ _ sb _ hm hsb ?_;rw[h2];exact Da (hK' _ _ _ (h1▸Ar) (by rw[h1,h2];rfl))
   ·rw[h2];exact DU (hK' _ _ _ (h1▸Ar) (by rw[h1,h2];rfl))
  ·exact hK' _ _ _ (h1▸B7) (by rw[h1];rfl)
 simp only[List.map,lc,ln,lj,z_t] at he;simp only[he];rw[ho];refine jif (λhv=>?_) (λhv=>?_)
 ·refine Av [] (G:=D ++ F) (BV (nok λT=>?_));simp only[Bool.or_eq_true,Bool.not_eq_true',z_b,z_d] at hv;rcases hv with hv | ⟨hv1,hv2⟩
  ·have:=(HN (by omega) (by omega)).2 (T.row i (by omega) (by omega));rw[hrv,hv] at this;cases this
  ·obtain⟨k,k1,k2,k3⟩:=hsb.2 hv2;have:=T.own i k (by omega) (by omega) (by omega) (by omega) (by rw[hrv];exact hv1) (by rw[hrv,k3]);omega
 ·simp only[Bool.or_eq_false_iff,Bool.not_eq_false',Bool.and_eq_false_iff,decide_eq_false_iff_not] at hv;obtain⟨hv1,hv2⟩:=hv;refine jl (v:=I (t[i]).AK) rfl ?_;refine @jmu _ _ _ mb o _ _ _ _ hm λo' hm'=>?_
  refine jk1 (F:=D ++ F) mb ?_;refine hK3 _ _ _ ⟨rfl,o',rfl,hm'.iff λy=>⟨?_,?_⟩,λk h1 h2=>?_,rfl⟩
  ·rintro (⟨k,h1,h2,h3⟩ | rfl)
   ·exact⟨k,h1,by omega,h3⟩
   ·exact⟨i,hi1,by omega,by rw[hrv]⟩
  ·rintro⟨k,h1,h2,h3⟩;by_cases hk:k = i
   ·subst hk;rw[hrv] at h3;exact .inr h3.symm
   ·exact .inl ⟨k,h1,by omega,h3⟩
  ·by_cases hk:k = i
   ·subst hk;rw[hrv];refine⟨(HN (by omega) (by omega)).1 hv1,λm m1 m2 h0 heq=>?_⟩;rcases hv2 with hv2 | hv2
    ·omega
    ·have:=hsb.1 ⟨m,m1,m2,heq⟩;rw[hv2] at this;cases this
   ·exact hinv k h1 (by omega)
end
end Go.Lf
end
section
namespace Go.Lf
open Go Sm
theorem jup {R:RM} {D:Chs} {lv:List Nat} {B:(List Value→M)→Env→M} (pre:List Value) (n:Nat)
  (H:∀(i:Nat) K e,i≤n→(i < n→J R D (K (pre ++ [I ((i:Int) + 1)])))→lv.map e = pre ++ [I i]→J R D (B K e)):J R D (LP lv B (pre ++ [I 0])):=by
 refine jlp (λm vs R' D'=>R' = R∧D' = D∧∃i:Nat,i≤n∧m = n - i∧vs = pre ++ [I i]) (n:=n) ⟨rfl,rfl,0,by omega,by omega,rfl⟩ ?_;rintro m e R1 D1 K ⟨hR,hD,i,hi,hm,he⟩ hK;subst hR hD;exact H i K e hi (λh=>hK (n - (i + 1)) _ _ _ (by omega) ⟨rfl,rfl,i + 1,by omega,rfl,rfl⟩) he
theorem Fz.nil {R:RM} {w:Nat}:Fz R (.slice none 0 0) w 0 []:=.inl ⟨rfl,rfl,rfl⟩
end Go.Lf
end
section
namespace Go.Lf
open Go Sm
theorem O3 {t:List Rg} {res:Int} {held:List Int} (h:¬ Ay t = true):AX t res held = ([],[]):=by unfold AX;rw[if_neg h]
theorem Sz {f:Int→Int} {l:List Int} {i:Nat} (h:i < l.length):((l.take (i + 1)).map f).sum = ((l.take i).map f).sum + f l[i]:=by
 rw[List.take_succ_eq_append_getElem h,List.map_append,List.sum_append];simp
set_option maxHeartbeats 2000000 in
theorem Kv {R:RM} {v:Value} (hc:Cod R v):Fn P E8 [v] R [] (λx _ A=>x = .bool true∧A = []):=by
 refine Gw λF=>?_
 unfold E9;have hsl:∃a c n,v = .slice a n c:=by
  obtain⟨n,hf⟩:=hc;obtain⟨a,c,e⟩:=hf.sl;exact⟨a,c,n,e⟩
 obtain⟨ca,cc,cn,hv⟩:=hsl;refine Co ⟨ca,cc,hv⟩ (jgr (jif (λ_=>BR (A:=[]) (RM.le.refl R) ⟨rfl,rfl⟩) (λ_=>?_)));refine jc (A:=[]) (Gp hc) ?_;rintro _ R1 _ hR1 ⟨t,tb,tc,tsp,res,held,hv2,rfl,t0,t1,n0,n1,hl,hh,rfl⟩;refine jex rfl (jex rfl (jex rfl ?_));refine Au (D':=(tb,C AD (AW eRg t ++ tsp)) :: F) (List.Perm.refl _) ?_;have C:=chP (t:=t) (res:=res) (held:=held);have cn:=O3 (t:=t) (res:=res) (held:=held);generalize hcc:AX t res held = cc at C cn;refine jmk (Ik res (by omega) hh (by omega) ⟨by omega,by omega⟩ (Nk (t:=t) (sp:=tsp) (b:=tb) (cap:=tc) (by omega))) ?_;rw[hcc];rintro _ _ ⟨v1,v2,A1,A2,so1,so2,rfl,rfl⟩;refine jex rfl (jex rfl ?_);rw[List.append_assoc];refine Es so1 λR2 hR2 i1=>Es so2 λR3 hR3 i2=>?_
 have i1:=i1.le hR3;have hR:=hR1.trans (hR2.trans hR3);have hh:=hh.le (hR2.trans hR3);clear so1 so2 hR1;refine jmk (Fx res ⟨by omega,by omega⟩ (by omega) hh (by omega)) ?_;rw[hcc];rintro _ _ ⟨v3,v4,A3,A4,so3,so4,rfl,rfl⟩;refine jex rfl (jex rfl ?_);rw[List.append_assoc];refine Es so3 λR4 hR4 i3=>Es so4 λR5 hR5 i4=>?_
 have i3:=i3.le hR5;have hR:=hR.trans (hR4.trans hR5);have i1:=i1.le (hR4.trans hR5);have i2:=i2.le (hR4.trans hR5);clear so3 so4 hR2 hR3 hR4 hR5 hh;have l1:=C.l1;have l2:=C.l2;refine jor [.slice (some ⟨tb,0,none⟩) t.length tc,I res,v1,v2] false (λK' hK'=>?_) (λe c u ho he=>?_)
 ·refine jrp (Ma i1 i3 (by omega) (by omega)) ?_;rw[beq_self_eq_true];refine jnt (jff (jrp (Ma i2 i4 (by omega) (by omega)) ?_));rw[beq_self_eq_true];exact jnt (hK' _ _ _ Ar rfl)
 simp only[List.map,lc,ln,lj,z_t] at he;simp only[he];rw[ho];refine Cv ?_;have hf:∀i (h:i < cc.1.length),∃k:Nat,cc.1[i] = k∧∃hk:k < t.length,(t[k]).kind = 3∧(t[k]).AF≠0∧(t[k]).AF < (t[k]).top - AG k∧0≤(t[k]).AF∧(t[k]).AF≤16∧AG k = 16 * k∧(t[k]).top≤16 * k + 16∧rv t cc.1[i] = t[k]:=by
  intro i h;have hok:Ay t = true:=by
   by_cases c:Ay t = true
   ·exact c
   ·have:=cn c;subst this;cases h
  have T:=BI.1 hok;obtain⟨k,⟨h1,h2,h3,h4,h5,_⟩,h6⟩:=C.a _ (List.getElem_mem h);have R:=T.row k (by omega) (by omega);have:=R.l0;have:=R.l1;have:=R.t1;have:=T.n1;have e:=Ch h3;refine⟨k,h1,h3,by rw[← e];exact h4,by rw[← e];exact h6,by rw[← e];exact h5,by rw[← e];exact R.l0,by rw[← e];omega,CZ (by omega) (by omega),by rw[← e];exact R.t1,by rw[h1];exact e⟩
 have up:=C.up;rw[List.pairwise_iff_getElem] at up;refine IT [.slice (some ⟨tb,0,none⟩) t.length tc,I res,v1,v2,I (cc.1.map λr=>(rv t r).AF).sum] (λK1 hK1=>?_) (λe he=>?_)
 ·refine IT [.slice (some ⟨tb,0,none⟩) t.length tc,I res,v1,v2,I (cc.1.map λr=>(rv t r).AF).sum] (λK2 hK2=>?_) (λe he=>?_)
  ·refine jlp (λn vs R' D'=>R' = R5∧D' = (tb,Lf.C AD (AW eRg t ++ tsp)) :: F∧∃(i:Nat) (last sum:Int),i≤cc.1.length∧n = cc.1.length - i∧vs = [.slice (some ⟨tb,0,none⟩) t.length tc,I res,v1,v2,I sum,I last,I i]∧sum = ((cc.1.take i).map λr=>(rv t r).AF).sum∧(0≤sum∧sum≤16 * i)∧∀j (h:j < cc.1.length),i≤j→last≤(rv t cc.1[j]).AF) (n:=cc.1.length) ⟨rfl,rfl,0,0,0,by omega,rfl,rfl,rfl,by omega,λj h _=>?_⟩ ?_
   ·obtain⟨k,_,_,_,_,_,h1,_,_,_,h2⟩:=hf j h;rw[h2];exact h1
   rintro n e R3 D3 K3 ⟨hR,hD,i,last,sum,hi,hn,he,hs,hs2,hla⟩ hK3;subst hR;rw[hD];clear hD;simp only[List.map,lc,ln,lj,z_t] at he;simp only[he];refine Co i1.sl (jlt (jif (λhc=>?_) (λhc=>?_)));rotate_left
   ·have hc:=z_g hc;rw[List.take_of_length_le (by omega)] at hs;rw[hs];exact hK2
   have hc:i < cc.1.length:=by have:=z_f hc;omega
   obtain⟨k,h1,h2,h3,h4,h5,h6,h7,h8,h10,h9⟩:=hf i hc;have hla':=hla i hc (z_n _);rw[h9] at hla';refine CN i1 (by omega) (by omega) ?_;simp only[Int.toNat_natCast,h1];refine Bc h2 (Ej (sp:=tsp) h2 (ja λxb=>js (cs':=eRg (t[k])) rfl rfl (Nat.le_of_ble_eq_true rfl) rfl ?_));refine IT [.slice (some ⟨tb,0,none⟩) t.length tc,I res,v1,v2,I sum,I (i:Int),.pointer (some ⟨xb,0,none⟩),.bool false] (λK4 hK4=>?_) (λe he=>?_)
   ·refine jor [.slice (some ⟨tb,0,none⟩) t.length tc,I res,v1,v2,I sum,I (i:Int),.pointer (some ⟨xb,0,none⟩)] false (λK' hK'=>?_) (λe c u ho he=>?_)
    ·refine jl (v:=I (t[k]).kind) rfl (jne ?_);rw[h3];refine jff (jl (v:=I (t[k]).AF) rfl (jlt (hK' _ _ _ Ar (decide_eq_false (by omega)))))
    simp only[List.map,lc,ln,lj,z_t] at he;simp only[he];refine jor [.slice (some ⟨tb,0,none⟩) t.length tc,I res,v1,v2,I sum,I (i:Int),.pointer (some ⟨xb,0,none⟩)] false (λK' hK'=>?_) (λe c u ho he=>?_)
    ·rw[ho];refine jff (jl (v:=I (t[k]).AF) rfl (jeq (hK' _ _ _ Ar (by simpa using h4))))
    simp only[List.map,lc,ln,lj,z_t] at he;simp only[he];refine IT [.slice (some ⟨tb,0,none⟩) t.length tc,I res,v1,v2,I sum,I (i:Int),.pointer (some ⟨xb,0,none⟩),.bool false,.pointer (some ⟨xb,0 + 4,none⟩),I (t[k]).AF,.pointer (some ⟨xb,0 + 2,none⟩),I (t[k]).top,I k] (λK5 hK5=>?_) (λe he=>?_)
    ·rw[ho];refine jff (jfo (jl (v:=I (t[k]).AF) rfl (jfo (jl (v:=I (t[k]).top) rfl (CN i1 (by omega) (by omega) ?_)))));simp only[Int.toNat_natCast,h1];exact hK5
    simp only[List.map,lc,ln,lj,z_t] at he;simp only[he];refine jff (jp (JE k) (DE ⟨by omega,by omega⟩ (jge ?_)));rw[show decide ((t[k]).AF≥(t[k]).top - AG k) = false from decide_eq_false (by omega)];exact DU (Ae (jl (v:=I (t[k]).AF) rfl jev) (Ae (jl (v:=I (t[k]).top) rfl jev) hK4))
   simp only[List.map,lc,ln,lj,z_t] at he;simp only[he];refine Cv (jl (v:=I (t[k]).AF) rfl (jl (v:=I (t[k]).AF) rfl (Ac ⟨by omega,by omega⟩ (Ac ⟨by omega,by omega⟩ (CR ?_)))));refine hK3 (cc.1.length - (i + 1)) _ _ _ (by omega) ⟨rfl,rfl,i + 1,(t[k]).AF,_,by omega,rfl,rfl,?_,by omega,λj hj hij=>?_⟩
   ·rw[Sz (f:=λr=>(rv t r).AF) hc,hs,h9]
   ·have:=up i j hc hj (by omega);rw[h9] at this;exact this
  ·simp only[List.map,lc,ln,lj,z_t] at he;simp only[he];exact hK1
 simp only[List.map,lc,ln,lj,z_t] at he;simp only[he];refine IT [I res,v1,I (cc.1.map λr=>(rv t r).AF).sum] (λK1 hK1=>?_) (λe he=>?_)
 ·refine IT [I res,v1,I (cc.1.map λr=>(rv t r).AF).sum] (λK2 hK2=>?_) (λe he=>?_)
  ·refine jup [.slice (some ⟨tb,0,none⟩) t.length tc,I res,v1,v2,I (cc.1.map λr=>(rv t r).AF).sum] cc.2.length (λi K e hi hK he=>?_);simp only[List.map,lc,ln,lj,z_t] at he;simp only[he];refine Co i2.sl (jlt (jif (λhc=>?_) (λhc=>hK2)));have hc:i < cc.2.length:=by have:=z_f hc;omega
   obtain⟨k,⟨h1,h2,h3,h4,h5,_⟩,h6⟩:=C.b _ (List.getElem_mem hc);rw[Ch h3] at h4 h6;refine jor [.slice (some ⟨tb,0,none⟩) t.length tc,I res,v1,v2,I (cc.1.map λr=>(rv t r).AF).sum,I (i:Int)] false (λK' hK'=>?_) (λe c u ho he=>?_)
   ·refine CN i2 (by omega) (by omega) ?_;simp only[Int.toNat_natCast,h1];refine Bc h3 (jl (v:=I (t[k]).AF) (by rw[Nat.zero_add];exact BT (f:=4) h3 rfl) (jne ?_));rw[h6];refine jff (CN i2 (by omega) (by omega) ?_);simp only[Int.toNat_natCast,h1];refine Bc h3 (jl (v:=I (t[k]).kind) (by rw[Nat.zero_add];exact BT (f:=0) h3 rfl) (jne ?_));rw[h4];exact hK' _ _ _ Ar rfl
   simp only[List.map,lc,ln,lj,z_t] at he;simp only[he];rw[ho];exact Cv (Ac ⟨by omega,by omega⟩ (hK hc))
  ·simp only[List.map,lc,ln,lj,z_t] at he;simp only[he];exact hK1
 simp only[List.map,lc,ln,lj,z_t] at he;simp only[he];refine jor [] true (λK' hK'=>?_) (λe c u ho he=>?_)
 ·refine Co i1.sl (jeq (BW (λh=>?_) (λh=>?_)))
  ·have h:((cc.1.length:Int) == 0) = false:=h;rw[h];refine jle (hK' _ _ _ Ar (decide_eq_true ?_));rcases C.sum with e | e
   ·rw[e] at h;cases h
   ·exact e
  ·rw[h];exact hK' _ _ _ B7 rfl
 simp only[List.map,lc,ln,lj,z_t] at he;simp only[he];rw[ho];exact BR (A:=[]) hR ⟨rfl,rfl⟩
end Go.Lf
end
section
namespace Go.Proofs.YtoajhnhjmhdfdaaGreat.fnTableChoose
open Go Go.Lf
open Go.ChangeShapes Go.WideShapes Go.ChangeAt Go.RowKit
set_option linter.unusedVariables false
theorem own:ownKnob Tryz.prog.godebug = none:=by kernel_rfl
theorem laidOut:laidOutB Tryz.prog = true:=by kernel_rfl
set_option maxRecDepth 100000 in
theorem lifted (os:Os) (started:os.Started) (H:Type) (enc:TypeId × Value→H) :
  ReturnsInHanded {} Tryz.checked os 5 .any (Rows.fnTableChooseSpec.pre6 enc Tryz.prog Tryz.f5 Rows.fnTableChooseRow.domain false) (Rows.fnTableChooseSpec.post enc Tryz.prog Tryz.f5 false true false false):=by
 refine returnsInHanded_of_change (C:=Tryz.checked) own started (by kernel_rfl) Tryz.func5
  (ChangeSpec.witness6 (enc:=enc) (C:=Tryz.checked) false ⟨#[],#[.slice none 0 0],[]⟩ 8 (by kernel_rfl) (by kernel_rfl) (by kernel_rfl) (by kernel_rfl)) ?_
 intro W base args ds gs before hval0 hW hcnd _;have hval:∀(j:Nat) t v,Tryz.f5.params[j]? = some t→args[j]? = some v→Value.okWide Tryz.prog W .any base t v:=hval0;have hW':=hW;obtain⟨p,q,hA0,hV,rfl,hfz,hnd⟩:=hW;have hA:DataW.TrodAll enc Tryz.prog W 0 (λ_=>true) true Tryz.f5.params.toList args.toList ds p:=hA0;rw[Tryz.params5] at hA hval;obtain⟨v0,vs0,d0,ds0,p0,q0,hargs,rfl,rfl,h0,r0⟩:=trodAll_cons hA;obtain⟨rfl,rfl,rfl⟩:=trodAll_nil r0;obtain rfl:args = #[v0]:=by cases args;simp_all
 obtain⟨rfl,rfl⟩:=trodVars_none hV;obtain⟨a0,len0,cap0,rfl⟩:=okWide_slice Tryz.underlying22 (hval 0 22 v0 rfl rfl);have k0:=h0;have lt0:∀x∈p0,x.block < W.heap.size:=by obtain⟨m,hm⟩:=k0;exact DataW.trod_lt m _ _ _ hm
 obtain⟨z0,w0⟩:∃zs,SI W a0 len0 cap0 zs:=by
  obtain⟨fuel,hf⟩:=h0;rcases open_ints Tryz.underlying22 Tryz.underlying5 (by kernel_rfl) hf with ⟨hcs,_⟩ | ⟨x,l,c,zs,hcs,_,hl,hm,hz,_,hcell,hwz⟩
  ·simp[Value.cells] at hcs;obtain⟨rfl,rfl,rfl⟩:=hcs;exact⟨[],.inl ⟨rfl,rfl,rfl,rfl⟩⟩
  ·simp[Value.cells] at hcs;obtain⟨rfl,rfl,rfl⟩:=hcs;exact⟨zs,.inr ⟨_,rfl,hl,by simpa using hz,hcell,hwz⟩⟩
 clear hA0 hval0;refine (RD (f:=5) (λR v h=>Kv h) w0).mono λe W' ⟨he,bel⟩=>?_
 subst he;have hst:DataW.Trod enc Tryz.prog W' 0 (λb=>decide (b < W.heap.size)) true 22 (Value.slice a0 len0 cap0) d0 p0:=WideElems.Trod_stays laidOut (by kernel_rfl) (z_f (by kernel_rfl)) k0 (λx hx=>bel.at_ (lt0 x hx)) (λx hx=>by simpa using lt0 x hx);exact⟨_,rfl,_,_,_,[],_,[],hW',trodAll_mk1 (shut_bool Tryz.underlying4 _),trodAll_mk1 hst,rfl,bel.frame _,λh=>by cases h⟩
theorem over:Rows.fnTableChooseRow.holds Tryz.pinned (OpenSpec.ofChange Rows.fnTableChooseSpec):=
 OpenClaim.holds_of_wide 5 Tryz.f5 rfl rfl rfl rfl rfl rfl rfl ⟨rfl,rfl,rfl,rfl,rfl⟩ rfl rfl rfl rfl rfl (by kernel_rfl) Tryz.func5 (by kernel_rfl)
  (z_f (by kernel_rfl)) (by unfold Func.isWrapper;rw[if_neg (z_g (by kernel_rfl))];exact⟨rfl,rfl⟩)
  (λos started H enc _=>lifted os started H enc)
theorem proved:Rows.FnTableChooseSaid:=over
#print axioms proved
end Go.Proofs.YtoajhnhjmhdfdaaGreat.fnTableChoose
end
