/- A part of the proof of the given row: the walk of the law and of all that it calls. Conditions: none. -/
import Derived.Test.YtlagojobcbkpdaaGreatDG
set_option linter.unusedVariables false
set_option linter.unusedSimpArgs false
set_option maxRecDepth 100000
section
namespace Sm
variable {P:List (List Op)}
theorem Ea {s:Shp} (h:BP s = true):AJ (AZ s) = (s,true):=by
 have hb:=h;simp only[BP,z_b,z_d] at hb;unfold AZ AJ;rw[if_pos h];have e1:(16 * s.refs + s.nums) / 16 = s.refs:=ω
 have e2:(16 * s.refs + s.nums) % 16 = s.nums:=ω
 rw[if_pos ω,e1,e2]
theorem XO {x:X} {o dst size:Int} {s:Shp} (H:Sh x) (O:Ow x o dst size) (ok:BP s = true) (hs:size = AF s) (hd:wv x.w dst = dst) (sp:wv x.w (dst + 1) = AZ s) (hz:∀j,2≤j→j < size→wv x.w (dst + j) = 0) :
  Sh (x.pub dst size)∧Kp o x (x.pub dst size):=by
 have e:shp x.w dst = s:=by unfold shp;rw[sp,Ea ok]
 have sb:=FP x.w dst;have ez:sz x.w dst = size:=by unfold sz;rw[e,hs]
 have z:∀j,0≤j→j < (shp x.w dst).refs→wv x.w (dst + 2 + j) = 0:=λj j0 j1=>by
  have:=hz (2 + j) ω ω;rwa [← Int.add_assoc] at this
 refine pub H O ez (by rw[sp,Ea ok]) hd (λj j0 j1 h=>absurd (z j j0 j1) h) (λ_ j j0 j1=>?_);rw[z j j0 j1];intro h;have:=h.2;rw[show (0:Int) / 16 = 0 from rfl,H.g.ok.e] at this;cases this
theorem My {α:Type} {l:List α} {i:Int} {t:α} (h:idx l i = some t):0≤i∧i < l.length:=by
 obtain⟨h0,h1,_⟩:=FJ t h;exact⟨h0,h1⟩
theorem Tr {S:Sim} {a n:Int} (h0:16≤a) (h1:a / 16 < S.A0.length) (h2:-1000000≤a + n) (h3:a + n≤1000000):S.top a n = some { S with A0:=AT S.A0 (a / 16) { rv S.A0 (a / 16) with top:=a + n } }:=by
 unfold Sim.top;rw[Bq ω,DB ω h1];simp only[];rw[BV h2 h3]
theorem Xb {c:Nat} {S S1:Sim} {g:Gh} {i:Int} {t t' : Thr} {o:Op} (hc:c < 900000) (I:IG P S g) (B:Bd c S1) (ht:idx S.th i = some t) (ho:S.opOf i t = some o) (hk:o.kind = 1) (hpc:t.pc≠0) (hsh:Sh (xof S1 g)) (K:Kp i (xof S g) (xof S1 g)) (E:BK S S1)
  (O:Ow (xof S1 g) i t.dst t.size) (ok:BP o.sh = true) (hs:t.size = AF o.sh) (hd:wv S1.AA t.dst = t.dst) (sp:wv S1.AA (t.dst + 1) = AZ o.sh) (hz:∀j,2≤j→j < t.size→wv S1.AA (t.dst + j) = 0)
  (hr:t'.AC = t.AC) (hn' : t'.next = t.next) (hdst:t'.dst = t.dst) (hsz:t'.size = t.size) :
  ∃S',((S1.setT i t').top t'.dst t'.size >>= λS=>S.push i t'.dst) = some S'∧(∃g',IG P S' g')∧Bd (c + 1) S'∧idx S'.th i = some (thr0 (t.AC ++ [t.dst]) (t.next + 1) 0):=by
 have T:=I.ti i t ht;have hn:=I.next ht ho;have fit:=O.fit;have d0:=O.d0;have inn:t.dst / 16 < S1.A0.length:=O.inn;have n1:=hsh.g.ok.n1;simp only at n1;have hl:=T.r8 o ho hpc (.inl hk);have sb:2≤t.size∧t.size≤10:=by
  have hb:=ok;simp only[BP,z_b,z_d] at hb;rw[hs,Jt ω];omega
 rw[hdst,hsz,Tr d0 (by exact inn) ω ω];simp only[Yn,z_o];obtain⟨h1,K1⟩:=XO hsh O ok hs hd sp hz;have B2:Bd c { S1 with A0:=AT S1.A0 (t.dst / 16) { rv S1.A0 (t.dst / 16) with top:=t.dst + t.size } }:=⟨B.ev,B.old,B.cy,B.fu,B.st,B.pn⟩;rw[RN (t:=t') ?_ (by rw[hr];omega) ?_ (by rw[hn'];exact hn)]
 ·obtain⟨I',B',ht'⟩:=Fy (ans:=0) (code:=0) (S1:={ S1 with A0:=AT S1.A0 (t.dst / 16) { rv S1.A0 (t.dst / 16) with top:=t.dst + t.size } }) (g':={ g with B:=λa=>g.B a∨a = t.dst,L:=λa=>g.L a∨a = t.dst }) I B2 ht ho h1 (K.trans K1 I.sh hsh) ⟨E.th,E.col,E.AK,E.pc_,E.stop,E.full,λq q0=>by
    rw[← E.AO q q0]
    show (rv (AT S1.A0 (t.dst / 16) _) q).AO = _
    rw[DS ω inn q0];split
    ·subst q;rfl
    ·rfl⟩ (t.AC ++ [t.dst]) (λa h h0=>by
     rcases ZB.1 h with h | h
     ·exact .inl (K.l a (T.rt a h h0))
     ·simp only[Z8] at h;exact .inr h) (by simp;omega)
  refine⟨_,?_,⟨_,I'⟩,B',ht'⟩;unfold Sim.evd Sim.setT;simp only[Ic,hr,hn']
 ·refine Uj (c:=c) ⟨B.ev,B.old,B.cy,B.fu,B.st,B.pn⟩ hc λu hu=>?_
  rcases Zm (show u∈AT S1.th i t' from hu) with h | h
  ·rw[E.th] at h;have:=I.AC u h;omega
  ·rw[h,hr];omega
 ·show idx (AT S1.th i t') i = _;rw[E.th];exact Fi ht
theorem Rm {c:Nat} {S:Sim} {g:Gh} {i:Int} {t:Thr} {o:Op} (hc:c < 900000) (I:IG P S g) (B:Bd c S) (ht:idx S.th i = some t) (ho:S.opOf i t = some o) (m:Mg (xof S g) i o t):Out P c i t.pc (S.making i):=by
 have T:=I.ti i t ht;have p:=m.p;have hpc:t.pc≠0:=ω
 have hwl:=I.wl;obtain⟨i0,i1⟩:=My ht;have hn1:=I.n1;have sb:2≤AF o.sh∧AF o.sh≤10:=by
  have hb:=m.sh;simp only[BP,z_b,z_d] at hb;rw[Jt ω];omega
 unfold Sim.making;rw[ht];simp only[Yn,z_o];rw[ho];simp only[z_o];by_cases c30:t.pc = 30
 ·rw[if_pos c30];rcases Fk (o:=i) (size:=AF o.sh) I.sh.g.ok ω ω ω ω with h | ⟨t',d,h,P⟩
  ·have h' : BX S.A0 i (AF o.sh) = none:=h;simp only[h'];split
   ·rw[EK (I.szok rfl B hc) ht (I.next ht ho)];obtain⟨I',B',ht'⟩:=Fy (ans:=0) (code:=6) I B ht ho I.sh (Kp.refl i _) (BK.refl S) t.AC T.rt T.rl;exact⟨_,g,rfl,I',B',.inr ⟨_,ht',.inl rfl⟩⟩
   ·obtain⟨S',h1,I',B',ht'⟩:=OT I B ht I.sh (Kp.refl i _) (BK.refl S);exact⟨S',g,h1,I',B'.mono (ZW c),.inr ⟨_,ht',.inl rfl⟩⟩
  ·have h' : BX S.A0 i (AF o.sh) = some (t',d):=h;simp only[h'];obtain⟨h1,K,O⟩:=room I.sh P;obtain⟨I',B',ht'⟩:=Cu (S1:={ S with A0:=t' }) (g':=g) (t':={ t with size:=AF o.sh,dst:=d,i:=2,pc:=31 }) I (c:=c) ⟨B.ev,B.old,B.cy,B.fu,B.st,B.pn⟩ ht h1 K ⟨rfl,rfl,rfl,rfl,rfl,rfl,P.AO⟩
    (T.upd K rfl rfl hpc ho (.mg ⟨σ,m.k,m.sh,λ_=>rfl,λ_=>O,λ_ _=>rfl,σ,σ,σ,σ⟩))
   refine⟨_,g,rfl,I',B'.mono (ZW c),.inr ⟨_,ht',.inr ?_⟩⟩;rw[c30];show rk 31 < rk 30;decide
 rw[if_neg c30];have hs:=m.sz ω;have O:=m.ow ω;have ow:t.dst + t.size≤S.AA.length:=O.wl I.sh.g;have d0:=O.d0;by_cases c31:t.pc = 31
 ·rw[if_pos c31,DE ω ω];simp only[z_o];obtain⟨h1,K⟩:=Tv (z:=t.dst) (v:=t.dst) I.sh O ω ω;obtain⟨I',B',ht'⟩:=Cu (S1:={ S with used:=true,AA:=AT S.AA t.dst t.dst }) (g':=g) (t':={ t with pc:=32 }) I (c:=c) ⟨B.ev,B.old,B.cy,B.fu,B.st,B.pn⟩ ht h1 K ⟨rfl,rfl,rfl,rfl,rfl,rfl,λ_ _=>rfl⟩
   (T.upd K rfl rfl hpc ho (.mg ⟨σ,m.k,m.sh,λ_=>hs,λ_=>⟨O.d0,O.k,O.o,O.top,O.fit⟩,λ_ _=>m.i2 ω ω,σ,λ_=>by
    show wv (AT S.AA t.dst t.dst) t.dst = t.dst
    rw[Cb ω ω ω,if_pos rfl],σ,σ⟩))
  exact⟨_,g,rfl,I',B'.mono (ZW c),.inl rfl⟩
 rw[if_neg c31];by_cases c32:t.pc = 32
 ·have hi:=m.i2 ω ω;have hd:wv S.AA t.dst = t.dst:=m.hd ω;rw[if_pos c32,BV ω ω];simp only[z_o];rw[DE ω ω];simp only[z_o];obtain⟨h1,K⟩:=Tv (z:=t.dst + 1) (v:=AZ o.sh) I.sh O ω ω;have e:∀u,0≤u→wv (AT S.AA (t.dst + 1) (AZ o.sh)) u = if u = t.dst + 1 then AZ o.sh else wv S.AA u:=λu hu=>Cb ω ω hu
  have hd' : wv (AT S.AA (t.dst + 1) (AZ o.sh)) t.dst = t.dst:=by rw[e _ ω,if_neg ω];exact hd
  have sp' : wv (AT S.AA (t.dst + 1) (AZ o.sh)) (t.dst + 1) = AZ o.sh:=by rw[e _ ω,if_pos rfl]
  have O' : Ow (xof { S with used:=true,AA:=AT S.AA (t.dst + 1) (AZ o.sh) } g) i t.dst t.size:=⟨O.d0,O.k,O.o,O.top,O.fit⟩;split
  ·rename_i hsz;have hsz:t.i = t.size:=hsz;obtain⟨S',e1,⟨g',I'⟩,B',ht'⟩:=Xb (S1:={ S with used:=true,AA:=AT S.AA (t.dst + 1) (AZ o.sh) }) (t':={ t with pc:=33 }) hc I ⟨B.ev,B.old,B.cy,B.fu,B.st,B.pn⟩ ht ho m.k hpc h1 K ⟨rfl,rfl,rfl,rfl,rfl,rfl,λ_ _=>rfl⟩ O' m.sh hs hd' sp' (λj j0 j1=>ω) rfl rfl rfl rfl;exact⟨S',g',e1,I',B',.inr ⟨_,ht',.inl rfl⟩⟩
  ·rename_i hsz;have hsz:t.i≠t.size:=hsz;obtain⟨I',B',ht'⟩:=Cu (S1:={ S with used:=true,AA:=AT S.AA (t.dst + 1) (AZ o.sh) }) (g':=g) (t':={ t with pc:=33 }) I (c:=c) ⟨B.ev,B.old,B.cy,B.fu,B.st,B.pn⟩ ht h1 K ⟨rfl,rfl,rfl,rfl,rfl,rfl,λ_ _=>rfl⟩
    (T.upd K rfl rfl hpc ho (.mg ⟨σ,m.k,m.sh,λ_=>hs,λ_=>O',λ_ h=>absurd h σ,λ_=>⟨by show 2≤t.i;omega,by show t.i < t.size;omega⟩,λ_=>hd',λ_=>sp',λ_ j j0 j1=>by have j1:j < t.i:=j1;omega⟩))
   exact⟨_,g,rfl,I',B'.mono (ZW c),.inl rfl⟩
 ·have c33:t.pc = 33:=ω
  have hi:=m.i3 c33;have hd:wv S.AA t.dst = t.dst:=m.hd ω;have sp:wv S.AA (t.dst + 1) = AZ o.sh:=m.sp ω;have z:∀j,2≤j→j < t.i→wv S.AA (t.dst + j) = 0:=m.z ω;rw[if_neg c32,if_pos c33,BV ω ω];simp only[z_o];rw[DE ω ω];simp only[z_o];rw[BV ω ω];simp only[z_o];obtain⟨h1,K⟩:=Tv (z:=t.dst + t.i) (v:=0) I.sh O ω ω;have e:∀u,0≤u→wv (AT S.AA (t.dst + t.i) 0) u = if u = t.dst + t.i then 0 else wv S.AA u:=λu hu=>Cb ω ω hu
  have hd' : wv (AT S.AA (t.dst + t.i) 0) t.dst = t.dst:=by rw[e _ ω,if_neg ω];exact hd
  have sp' : wv (AT S.AA (t.dst + t.i) 0) (t.dst + 1) = AZ o.sh:=by rw[e _ ω,if_neg ω];exact sp
  have z' : ∀j,2≤j→j < t.i + 1→wv (AT S.AA (t.dst + t.i) 0) (t.dst + j) = 0:=λj j0 j1=>by
   rw[e _ ω];split
   ·rfl
   ·exact z j j0 ω
  have O' : Ow (xof { S with used:=true,AA:=AT S.AA (t.dst + t.i) 0 } g) i t.dst t.size:=⟨O.d0,O.k,O.o,O.top,O.fit⟩;split
  ·rename_i hsz;have hsz:t.i + 1 = t.size:=hsz;obtain⟨S',e1,⟨g',I'⟩,B',ht'⟩:=Xb (S1:={ S with used:=true,AA:=AT S.AA (t.dst + t.i) 0 }) (t':={ t with i:=t.i + 1,pc:=33 }) hc I ⟨B.ev,B.old,B.cy,B.fu,B.st,B.pn⟩ ht ho m.k hpc h1 K ⟨rfl,rfl,rfl,rfl,rfl,rfl,λ_ _=>rfl⟩ O' m.sh hs hd' sp' (λj j0 j1=>z' j j0 ω) rfl rfl rfl rfl;exact⟨S',g',e1,I',B',.inr ⟨_,ht',.inl rfl⟩⟩
  ·rename_i hsz;have hsz:t.i + 1≠t.size:=hsz;obtain⟨I',B',ht'⟩:=Cu (S1:={ S with used:=true,AA:=AT S.AA (t.dst + t.i) 0 }) (g':=g) (t':={ t with i:=t.i + 1,pc:=33 }) I (c:=c) ⟨B.ev,B.old,B.cy,B.fu,B.st,B.pn⟩ ht h1 K ⟨rfl,rfl,rfl,rfl,rfl,rfl,λ_ _=>rfl⟩
    (T.upd K rfl rfl hpc ho (.mg ⟨σ,m.k,m.sh,λ_=>hs,λ_=>O',λ_ h=>absurd h σ,λ_=>⟨by show 2≤t.i + 1;omega,by show t.i + 1 < t.size;omega⟩,λ_=>hd',λ_=>sp',λ_ j j0 j1=>z' j j0 j1⟩))
   exact⟨_,g,rfl,I',B'.mono (ZW c),.inl rfl⟩
theorem RE {c:Nat} {S:Sim} {g:Gh} {i v:Int} (hz:S.sz = true) (H:Sh (xof S g)) (B:Bd c S) (hv:v≠0→g.L v) :
  ∃S1,S.oldV v = some S1∧Sh (xof S1 g)∧Kp i (xof S g) (xof S1 g)∧BK S S1∧Bd (c + 1) S1∧S1.used = S.used∧S1.AA = S.AA∧S1.A0 = S.A0∧S1.Ad = S.Ad∧(S.Ad = 1→Lg (xof S1 g) v):=by
 unfold Sim.oldV;rw[hz];simp only[an,ZE,if_false];by_cases h1:S.Ad = 1
 ·by_cases h0:v = 0
  ·rw[if_neg ω];exact⟨S,rfl,H,Kp.refl i _,BK.refl S,B.mono (ZW c),rfl,rfl,rfl,rfl,λ_=>.inl h0⟩
  ·rw[if_pos ⟨h1,h0⟩];have M:=H.mp h1;obtain⟨P,K⟩:=YT (o:=i) (l:=S.old ++ [v]) H (λu hu=>by
    rcases ZB.1 hu with h | h
    ·exact M.old u h
    ·simp only[Z8] at h;subst h;exact hv h0) (λu hu=>ZP _ hu)
   have B':=B.mono (ZW c);refine⟨_,rfl,P,K,⟨rfl,rfl,rfl,rfl,rfl,rfl,λ_ _=>rfl⟩,⟨B'.ev,?_,B'.cy,B'.fu,?_,B'.pn⟩,rfl,rfl,rfl,rfl,λ_=>.inr (.inr (.inr (.inl (Za _ σ))))⟩
   ·have:=B.old;show (S.old ++ [v]).length≤c + 1;simp;omega
   ·have:=B.st;show S.col.AM.length + (S.old ++ [v]).length + 5 * S.AK.countP (λb=>!b) + (if S.col.pc = 2 then (S.col.sh.refs - S.col.i).toNat else 0)≤3000 + (c + 1);simp only[Yk,Z7];omega
 ·rw[if_neg ω];exact⟨S,rfl,H,Kp.refl i _,BK.refl S,B.mono (ZW c),rfl,rfl,rfl,rfl,λh=>absurd h h1⟩
end Sm
end
section
namespace Sm
variable {P:List (List Op)}
theorem IG.usd {S:Sim} {g:Gh} (I:IG P S g) (b:Bool):IG P { S with used:=b } g:=⟨I.pg,I.sh,I.n0,I.n1,I.pl,I.pp,I.ti,I.c1,I.c2,I.c3,I.wt,I.rs⟩
theorem Bd.usd {c:Nat} {S:Sim} (B:Bd c S) (b:Bool):Bd c { S with used:=b }:=⟨B.ev,B.old,B.cy,B.fu,B.st,B.pn⟩
def SU (P:List (List Op)) (c:Nat) (r:Option Sim):Prop:=∃S' g',r = some S'∧IG P S' g'∧Bd (c + 1) S'∧S'.used = true
theorem SU.out {c:Nat} {i pc:Int} {r:Option Sim} (h:SU P c r):Out P c i pc r:=by
 obtain⟨S',g',h1,h2,h3,h4⟩:=h;exact⟨S',g',h1,h2,h3,.inl h4⟩
section
variable {c:Nat} {S:Sim} {g:Gh} {i:Int} {t:Thr} {o:Op}
theorem Ew (hc:c < 900000) (I:IG P S g) (B:Bd c S) (ht:idx S.th i = some t) (ho:S.opOf i t = some o) (ans code:Int):∃S',S.event i ans code = some S'∧IG P S' g∧Bd (c + 1) S'∧idx S'.th i = some (thr0 t.AC (t.next + 1) 0)∧S'.used = S.used:=by
 rw[EK (I.szok rfl B hc) ht (I.next ht ho)];have T:=I.ti i t ht;obtain⟨I',B',ht'⟩:=Fy (ans:=ans) (code:=code) I B ht ho I.sh (Kp.refl i _) (BK.refl S) t.AC T.rt T.rl;exact⟨_,rfl,I',B',ht',rfl⟩
theorem NQ (hc:c < 900000) (I:IG P S g) (B:Bd c S) (ht:idx S.th i = some t) (ho:S.opOf i t = some o) {a:Int} (ha:a≠0→g.L a) (hl:t.AC.length < 8):∃S',S.push i a = some S'∧IG P S' g∧Bd (c + 1) S'∧idx S'.th i = some (thr0 (t.AC ++ [a]) (t.next + 1) 0)∧S'.used = S.used:=by
 rw[RN (I.szok rfl B hc) ω ht (I.next ht ho)];have T:=I.ti i t ht;obtain⟨I',B',ht'⟩:=Fy (ans:=0) (code:=0) I B ht ho I.sh (Kp.refl i _) (BK.refl S) (t.AC ++ [a]) (λb h h0=>by
  rcases ZB.1 h with h | h
  ·exact T.rt b h h0
  ·simp only[Z8] at h;subst h;exact ha h0) (by simp;omega)
 exact⟨_,rfl,I',B',ht',rfl⟩
theorem VF {v:Int} (hc:c < 900000) (I:IG P S g) (B:Bd c S) (ht:idx S.th i = some t) (ho:S.opOf i t = some o) (b:Bs (xof S g) o t t.pc) (hp:t.pc = 5∨t.pc = 12) (hv:v≠0→g.L v) (hu:S.used = true):SU P c (S.load i v):=by
 have T:=I.ti i t ht;have hpc:t.pc≠0:=ω
 have hk:o.kind = 2:=b.k5 ω;have hl:=T.r8 o ho hpc (.inr hk);unfold Sim.load;rw[ht];simp only[Yn,z_o];split
 ·rename_i h;obtain⟨S',h1,h2,h3,_,h5⟩:=NQ (a:=t.v) hc I B ht ho (b.v ω ω) hl;exact⟨S',g,h1,h2,h3,by rw[h5,hu]⟩
 ·obtain⟨d,hd,hdf⟩:=I.frm hv;rw[hd];simp only[z_o];cases d with
  | false=>
   rw[if_pos τ];obtain⟨S',h1,h2,h3,_,h5⟩:=NQ (a:=v) hc I B ht ho hv hl;exact⟨S',g,h1,h2,h3,by rw[h5,hu]⟩
  | true=>
   rw[if_neg σ];have b1:Bs (xof S g) o { t with u:=v,v:=v } 11:=⟨δ,b.k,b.h,b.g,b.kk,b.h0,λ_=>b.nh ω,λ_=>b.ng ω,λ_=>b.nk ω,λ_=>b.s ω,λ_=>b.f ω,λ_=>hk,λh=>absurd h δ,λh=>absurd h δ,λh=>absurd h δ,λh=>absurd h δ,λh=>absurd h δ,λh=>absurd h δ,λ_ _=>hv,λh=>absurd h δ,λh=>absurd h δ⟩;obtain⟨I',B',_⟩:=Cu (t':={ t with u:=v,v:=v,pc:=11 }) I B ht I.sh (Kp.refl i _) (BK.refl S) (T.upd (Kp.refl i _) rfl rfl hpc ho (.bs (b1.eqv rfl rfl rfl rfl rfl rfl)));exact⟨_,g,rfl,I',B'.mono (ZW c),hu⟩
theorem RO {w:List Int} {t:List Rg} {B:Int→Prop} (G:Geo w t B) {v:Int} (h:BZ t v):v≠0:=by
 intro c;subst c;have:=h.2;rw[show (0:Int) / 16 = 0 from rfl,G.ok.e] at this;cases this
theorem IG.ph2 {v:Int} (I:IG P S g) (h:BZ S.A0 v):S.Ad = 2∨S.Ad = 3:=by
 have hp:0≤S.Ad∧S.Ad≤3:=I.sh.ph;by_cases c:S.Ad≤1
 ·exact absurd h.2 (I.sh.nf c (v / 16) (by have:=h.1;omega))
 ·omega
theorem Qi {v:Int} (hc:c < 900000) (I:IG P S g) (B:Bd c S) (ht:idx S.th i = some t) (ho:S.opOf i t = some o) (b:Bs (xof S g) o t t.pc) (hp:t.pc = 10∨t.pc = 16) (hv:v≠0→g.L v) (hu:S.used = true):SU P c (S.swap i v):=by
 have T:=I.ti i t ht;have hpc:t.pc≠0:=ω
 have hk:o.kind = 7:=b.k10 ω;unfold Sim.swap;rw[ht];simp only[Yn,z_o];split
 ·obtain⟨S',h1,h2,h3,_,h5⟩:=Ew hc I B ht ho 0 0;exact⟨S',g,h1,h2,h3,by rw[h5,hu]⟩
 ·obtain⟨d,hd,hdf⟩:=I.frm hv;rw[hd];simp only[z_o];cases d with
  | true=>
   have hf:BZ S.A0 v:=hdf.1 rfl;rw[if_pos rfl];have b1:Bs (xof S g) o { t with u:=v,v:=v } 15:=⟨δ,b.k,b.h,b.g,b.kk,b.h0,λ_=>b.nh ω,λ_=>b.ng ω,λ_=>b.nk ω,λ_=>b.s ω,λ_=>b.f ω,λh=>absurd h δ,λh=>absurd h δ,λh=>absurd h δ,λh=>absurd h δ,λ_=>hk,λh=>absurd h δ,λh=>absurd h δ,λ_ _=>hv,λh=>absurd h δ,λ_=>by show S.Ad≠1;have:=I.ph2 hf;omega⟩;obtain⟨I',B',_⟩:=Cu (t':={ t with u:=v,v:=v,pc:=15 }) I B ht I.sh (Kp.refl i _) (BK.refl S) (T.upd (Kp.refl i _) rfl rfl hpc ho (.bs (b1.eqv rfl rfl rfl rfl rfl rfl)));exact⟨_,g,rfl,I',B'.mono (ZW c),hu⟩
  | false=>
   rw[if_neg δ];split
   ·obtain⟨S',h1,h2,h3,_,h5⟩:=Ew hc I B ht ho 0 0;exact⟨S',g,h1,h2,h3,by rw[h5,hu]⟩
   ·obtain⟨S1,e1,H1,K1,E1,B1,u1,w1,t1,p1,l1⟩:=RE (i:=i) (I.szok rfl B hc) I.sh B hv;rw[e1];simp only[z_o];have b0:=b.stable I.sh K1;have b1:Bs (xof S1 g) o { t with u:=v } 14:=⟨δ,b0.k,b0.h,b0.g,b0.kk,b0.h0,λ_=>b0.nh ω,λ_=>b0.ng ω,λ_=>b0.nk ω,λ_=>b0.s ω,λ_=>b0.f ω,λh=>absurd h δ,λh=>absurd h δ,λh=>absurd h δ,λh=>absurd h δ,λ_=>hk,λh=>absurd h δ,λ_ hp=>l1 (by rw[← p1];exact hp),λ_ h=>absurd rfl h,λh=>absurd h δ,λh=>absurd h δ⟩;obtain⟨I',B',_⟩:=Cu (t':={ t with u:=v,pc:=14 }) I B1 ht H1 K1 E1 (T.upd K1 rfl rfl hpc ho (.bs (b1.eqv rfl rfl rfl rfl rfl rfl)));exact⟨_,g,rfl,I',B',by show S1.used = true;rw[u1,hu]⟩
theorem VD {AG l:List Int} {kind a:Int} (h:G3 AG kind a = some l) (h8:AG.length≤8):l.length≤8∧∀v∈l,v∈AG∨v = a:=by
 unfold G3 at h;split at h
 ·split at h
  ·cases h
  ·cases h;refine⟨by simp;omega,λv hv=>?_⟩;simpa using hv
 ·split at h
  ·cases h;refine⟨by simp;omega,λv hv=>.inl ?_⟩;rcases ZB.1 hv with h | h
   ·exact ZO h
   ·exact aA h
  ·cases h
theorem UA (hc:c < 900000) (I:IG P S g) (B:Bd c S) (ht:idx S.th i = some t) (ho:S.opOf i t = some o) (b:Bs (xof S g) o t t.pc) (hp:t.pc = 4):Out P c i t.pc (S.shape i):=by
 have T:=I.ti i t ht;have hpc:t.pc≠0:=ω
 have hk:=b.k;unfold Sim.shape;rw[ht];simp only[Yn,z_o];rw[I.szok rfl B hc,if_neg δ,ho];simp only[z_o];split
 ·obtain⟨S',h1,h2,h3,h4,_⟩:=Ew hc I B ht ho (one (t.h == t.g)) 0;exact⟨S',g,h1,h2,h3,.inr ⟨_,h4,.inl rfl⟩⟩
 ·rename_i k6;split
  ·rename_i k10;split
   ·obtain⟨S',h1,h2,h3,h4,_⟩:=Ew hc I B ht ho 0 7;exact⟨S',g,h1,h2,h3,.inr ⟨_,h4,.inl rfl⟩⟩
   ·rename_i AG hpins;obtain⟨q1,q2⟩:=VD hpins B.pn;obtain⟨P,K⟩:=YZ (o:=i) (l:=AG) I.sh λv hv=>by
     rcases q2 v hv with h | h
     ·exact I.sh.pl v h
     ·subst h;exact⟨b.h (b.h0 k6),b.nh ω⟩
    have B1:Bd c { S with AG:=AG }:=⟨B.ev,B.old,B.cy,B.fu,B.st,q1⟩;rw[EK (S:={ S with AG:=AG }) (I.szok rfl B1 hc) ht (I.next ht ho)];obtain⟨I',B',ht'⟩:=Fy (ans:=0) (code:=0) (S1:={ S with AG:=AG }) I B1 ht ho P K ⟨rfl,rfl,rfl,rfl,rfl,rfl,λ_ _=>rfl⟩ t.AC T.rt T.rl;exact⟨_,g,rfl,I',B',.inr ⟨_,ht',.inl rfl⟩⟩
  ·rename_i k10;have hh:=b.h0 k6;obtain⟨a1,a2,a3,a4,a5,a6⟩:=I.in_ (b.h hh);have hwl:=I.wl;rw[BV ω ω];simp only[z_o];rw[CI ω ω];simp only[z_o];have es:(AJ (wv S.AA (t.h + 1))).1 = shp S.AA t.h:=rfl;rw[es];split
   ·obtain⟨S',h1,h2,h3,h4,h5⟩:=Ew (S:={ S with used:=true }) hc (I.usd true) (B.usd true) ht ho 0 4;exact⟨S',g,h1,h2,h3,.inl h5⟩
   ·rename_i hf;have sb:=FP S.AA t.h;have hf:Gp o (shp S.AA t.h).refs (shp S.AA t.h).nums = true:=by simpa using hf
    have hfld:0≤o.f∧(o.kind = 4∨o.kind = 5→o.f < (shp S.AA t.h).nums)∧(o.kind≠4→o.kind≠5→o.f < (shp S.AA t.h).refs):=by
     unfold Gp at hf;split at hf
     ·rename_i h45;simp only[ZD,beq_iff_eq] at h45;simp only[z_b,z_d] at hf;exact⟨hf.1,λ_=>hf.2,λh4 h5=>by rcases h45 with h | h<;>contradiction⟩
     ·rename_i h45;simp only[ZD,beq_iff_eq,not_or] at h45;simp only[z_b,z_d] at hf;exact⟨hf.1,λh=>by rcases h with h | h<;>simp[h] at h45,λ_ _=>hf.2⟩
    have go:∀q:Int,(q = 5∨q = 6∨q = 7∨q = 8∨q = 9∨q = 10)→(q = 5→o.kind = 2)→(q = 6∨q = 7→o.kind = 3)→(q = 8→o.kind = 4)→(q = 9→o.kind = 5)→(q = 10→o.kind = 7)→(q = 7→S.Ad≠1)→
      SU P c (some (({ S with used:=true }:Sim).setT i { t with sh:=shp S.AA t.h,pc:=q })):=λq hq h5 h6 h8 h9 h10 h7=>by
     have b1:Bs (xof S g) o { t with sh:=shp S.AA t.h } q:=⟨ω,b.k,b.h,b.g,b.kk,b.h0,λ_=>b.nh ω,λ_=>b.ng ω,λ_=>b.nk ω,λ_=>⟨rfl,hh⟩,λ_=>hfld,λh=>h5 ω,λh=>h6 ω,h8,h9,λh=>h10 ω,λh hph=>absurd hph (h7 h),λh=>ω,λh=>ω,λh=>ω,λh=>ω⟩;obtain⟨I',B',_⟩:=Cu (S1:={ S with used:=true }) (t':={ t with sh:=shp S.AA t.h,pc:=q }) I (B.usd true) ht I.sh (Kp.refl i _) ⟨rfl,rfl,rfl,rfl,rfl,rfl,λ_ _=>rfl⟩ (T.upd (Kp.refl i _) rfl rfl hpc ho (.bs (b1.eqv rfl rfl rfl rfl rfl rfl)));exact⟨_,g,rfl,I',B'.mono (ZW c),rfl⟩
    refine SU.out ?_;by_cases k2:o.kind = 2
    ·rw[if_pos k2];exact go 5 ω (λ_=>k2) ω ω ω ω ω
    rw[if_neg k2];by_cases k3:o.kind = 3
    ·rw[if_pos k3];split
     ·exact go 6 ω ω (λ_=>k3) ω ω ω ω
     ·rename_i h;exact go 7 ω ω (λ_=>k3) ω ω ω (λ_=>h)
    rw[if_neg k3];by_cases k4:o.kind = 4
    ·rw[if_pos k4];exact go 8 ω ω ω (λ_=>k4) ω ω ω
    rw[if_neg k4];by_cases k5:o.kind = 5
    ·rw[if_pos k5];exact go 9 ω ω ω ω (λ_=>k5) ω ω
    rw[if_neg k5,if_pos ω];exact go 10 ω ω ω ω ω (λ_=>ω) ω
end
end Sm
end
section
namespace Sm
variable {P:List (List Op)}
section
variable {c:Nat} {S:Sim} {g:Gh} {i:Int} {t:Thr} {o:Op}
theorem TA (hc:c < 900000) (I:IG P S g) (B:Bd c S) (ht:idx S.th i = some t) (ho:S.opOf i t = some o) (b:Bs (xof S g) o t t.pc) (hp:5≤t.pc) (h11:t.pc≠11) (h15:t.pc≠15):Out P c i t.pc (S.field i):=by
 have T:=I.ti i t ht;have hpc:t.pc≠0:=ω
 have hwl:=I.wl;have hbp:=b.p;obtain⟨hsh,hh⟩:=b.s hp;have hL:=b.h hh;have hN:=b.nh ω;obtain⟨a1,a2,a3,a4,a5,a6⟩:=I.in_ hL;have sb:=FP S.AA t.h;simp only at hsh;obtain⟨f0,fn,fr⟩:=b.f hp;have fr' : o.kind≠4→o.kind≠5→o.f < (shp S.AA t.h).refs:=λh h'=>by rw[← hsh];exact fr h h'
 have fn' : o.kind = 4∨o.kind = 5→o.f < (shp S.AA t.h).nums:=λh=>by rw[← hsh];exact fn h
 have B1:=B.usd true;have I1:=I.usd true;have rdv:o.kind≠4→o.kind≠5→wv S.AA (t.h + 2 + o.f)≠0→g.L (wv S.AA (t.h + 2 + o.f)):=λh h'=>I.sh.rf t.h o.f hL f0 (fr' h h')
 have o1:o.f < 5:=by
  by_cases k:o.kind = 4∨o.kind = 5
  ·have:=fn' k;omega
  ·have:=fr' (λh=>k (.inl h)) (λh=>k (.inr h));omega
 have opu:({ S with used:=true }:Sim).opOf i t = some o:=ho;unfold Sim.field;rw[ht];simp only[Yn,z_o];rw[ho];simp only[z_o];rw[BV ω ω];simp only[z_o];rw[BV ω ω];simp only[z_o];rw[BV (by rw[hsh];omega) (by rw[hsh];omega)];simp only[z_o];rw[BV (by rw[hsh];omega) (by rw[hsh];omega)];simp only[z_o];by_cases c5:t.pc = 5∨t.pc = 12
 ·have hk:=b.k5 ω;have f1:=fr' ω ω;rw[if_pos c5,CI ω ω];simp only[z_o];exact (VF hc I1 B1 ht opu b c5 (rdv ω ω) rfl).out
 rw[if_neg c5];by_cases c6:t.pc = 6
 ·have hk:=b.k6 ω;have f1:=fr' ω ω;rw[if_pos c6,CI ω ω];simp only[z_o];obtain⟨S1,e1,H1,K1,E1,B1',u1,w1,t1,p1,l1⟩:=RE (i:=i) (I1.szok rfl B1 hc) I1.sh B1 (rdv ω ω);rw[e1];simp only[z_o];have b0:=b.stable I.sh K1;have b1:Bs (xof S1 g) o t 7:=⟨δ,b0.k,b0.h,b0.g,b0.kk,b0.h0,λ_=>b0.nh ω,λ_=>b0.ng ω,λ_=>b0.nk ω,λ_=>b0.s ω,λ_=>b0.f ω,λh=>absurd h δ,λ_=>hk,λh=>absurd h δ,λh=>absurd h δ,λh=>absurd h δ,λ_ hph htm=>by
    have hph' : S.Ad = 1:=by rw[← p1];exact hph
    rw[K1.tma (show (0:Int)≤t.h by omega)] at htm
    rcases (I.sh.mp hph').un t.h o.f hL htm f0 f1 with h | h
    ·have:=l1 hph'
     rw[show (xof S1 g).q (t.h + 2 + o.f) = wv S.AA (t.h + 2 + o.f) from h.symm]
     exact this
    ·exact K1.lg hph' _ h,λh=>absurd h δ,λh=>absurd h δ,λh=>absurd h δ,λh=>absurd h δ⟩
  obtain⟨I',B',_⟩:=Cu (t':={ t with pc:=7 }) I B1' ht H1 K1 ⟨E1.th,E1.col,E1.AK,E1.pc_,E1.stop,E1.full,E1.AO⟩ (T.upd K1 rfl rfl hpc ho (.bs (b1.eqv rfl rfl rfl rfl rfl rfl)));exact⟨_,g,rfl,I',B',.inl u1⟩
 rw[if_neg c6];by_cases c7:t.pc = 7
 ·have hk:=b.k6 ω;have f1:=fr' ω ω;rw[if_pos c7,DE ω ω];simp only[z_o];obtain⟨P,K⟩:=ref (o:=i) (v:=t.g) I.sh hL hN f0 f1 b.g (b.l7 c7) (λ_=>b.ng ω);have B2:Bd c { S with used:=true,AA:=AT S.AA (t.h + 2 + o.f) t.g }:=⟨B.ev,B.old,B.cy,B.fu,B.st,B.pn⟩;rw[EK (S:={ S with used:=true,AA:=AT S.AA (t.h + 2 + o.f) t.g }) (I.szok rfl B2 hc) ht (I.next ht ho)];obtain⟨I',B',_⟩:=Fy (ans:=0) (code:=0) (S1:={ S with used:=true,AA:=AT S.AA (t.h + 2 + o.f) t.g }) I B2 ht ho P K ⟨rfl,rfl,rfl,rfl,rfl,rfl,λ_ _=>rfl⟩ t.AC T.rt T.rl;exact⟨_,g,rfl,I',B',.inl rfl⟩
 rw[if_neg c7];by_cases c8:t.pc = 8
 ·have hk:=b.k8 c8;have f1:=fn' (.inl hk);have e:t.h + 2 + t.sh.refs + o.f = t.h + (2 + (shp S.AA t.h).refs + o.f):=by rw[hsh];omega
  rw[if_pos c8,e,DE ω ω];simp only[z_o];obtain⟨P,K⟩:=num (o:=i) (v:=o.v) (k:=2 + (shp S.AA t.h).refs + o.f) I.sh hL hN (by show 2 + (shp S.AA t.h).refs≤_;omega) (by show _ < Sm.sz S.AA t.h;omega);have B2:Bd c { S with used:=true,AA:=AT S.AA (t.h + (2 + (shp S.AA t.h).refs + o.f)) o.v }:=⟨B.ev,B.old,B.cy,B.fu,B.st,B.pn⟩;rw[EK (S:={ S with used:=true,AA:=AT S.AA (t.h + (2 + (shp S.AA t.h).refs + o.f)) o.v }) (I.szok rfl B2 hc) ht (I.next ht ho)];obtain⟨I',B',_⟩:=Fy (ans:=0) (code:=0) (S1:={ S with used:=true,AA:=AT S.AA (t.h + (2 + (shp S.AA t.h).refs + o.f)) o.v }) I B2 ht ho P K ⟨rfl,rfl,rfl,rfl,rfl,rfl,λ_ _=>rfl⟩ t.AC T.rt T.rl;exact⟨_,g,rfl,I',B',.inl rfl⟩
 rw[if_neg c8];by_cases c9:t.pc = 9
 ·have hk:=b.k9 c9;have f1:=fn' (.inr hk);rw[if_pos c9,CI (by rw[hsh];omega) (by rw[hsh];omega)];simp only[z_o];obtain⟨S',h1,h2,h3,h4,h5⟩:=Ew (S:={ S with used:=true }) hc I1 B1 ht opu (wv S.AA (t.h + 2 + t.sh.refs + o.f)) 0;exact⟨S',g,h1,h2,h3,.inl h5⟩
 rw[if_neg c9];have hk:o.kind = 7:=b.k10 ω;have f1:=fr' ω ω;by_cases c10:t.pc = 10
 ·rw[if_pos c10,CI ω ω];simp only[z_o];exact (Qi hc I1 B1 ht opu b (.inl c10) (rdv ω ω) rfl).out
 rw[if_neg c10];by_cases c14:t.pc = 14
 ·rw[if_pos c14,CI ω ω];simp only[z_o];split
  ·rename_i hu;rw[DE (S:={ S with used:=true }) ω (by show _ < (S.AA.length:Int);omega)];simp only[z_o];obtain⟨P,K⟩:=ref (o:=i) (v:=t.k) I.sh hL hN f0 f1 b.kk (λhph htm=>by
    rcases (I.sh.mp hph).un t.h o.f hL htm f0 f1 with h | h
    ·have:=b.l14 c14 hph
     rw[show (xof S g).q (t.h + 2 + o.f) = wv S.AA (t.h + 2 + o.f) from h.symm,hu]
     exact this
    ·exact h) (λ_=>b.nk ω)
   have B2:Bd c { S with used:=true,AA:=AT S.AA (t.h + 2 + o.f) t.k }:=⟨B.ev,B.old,B.cy,B.fu,B.st,B.pn⟩;rw[EK (S:={ S with used:=true,AA:=AT S.AA (t.h + 2 + o.f) t.k }) (I.szok rfl B2 hc) ht (I.next ht ho)];obtain⟨I',B',_⟩:=Fy (ans:=1) (code:=0) (S1:={ S with used:=true,AA:=AT S.AA (t.h + 2 + o.f) t.k }) I B2 ht ho P K ⟨rfl,rfl,rfl,rfl,rfl,rfl,λ_ _=>rfl⟩ t.AC T.rt T.rl;exact⟨_,g,rfl,I',B',.inl rfl⟩
  ·have b1:Bs (xof S g) o t 10:=⟨δ,b.k,b.h,b.g,b.kk,b.h0,λ_=>b.nh ω,λ_=>b.ng ω,λ_=>b.nk ω,λ_=>b.s ω,λ_=>b.f ω,λh=>absurd h δ,λh=>absurd h δ,λh=>absurd h δ,λh=>absurd h δ,λ_=>hk,λh=>absurd h δ,λh=>absurd h δ,λh=>absurd h δ,λh=>absurd h δ,λh=>absurd h δ⟩;obtain⟨I',B',_⟩:=Cu (S1:={ S with used:=true }) (t':={ t with pc:=10 }) I B1 ht I.sh (Kp.refl i _) ⟨rfl,rfl,rfl,rfl,rfl,rfl,λ_ _=>rfl⟩ (T.upd (Kp.refl i _) rfl rfl hpc ho (.bs (b1.eqv rfl rfl rfl rfl rfl rfl)));exact⟨_,g,rfl,I',B'.mono (ZW c),.inl rfl⟩
 rw[if_neg c14,if_pos ω];have c16:t.pc = 16:=ω
 split
 ·have b1:Bs (xof S g) o t 14:=⟨δ,b.k,b.h,b.g,b.kk,b.h0,λ_=>b.nh ω,λ_=>b.ng ω,λ_=>b.nk ω,λ_=>b.s ω,λ_=>b.f ω,λh=>absurd h δ,λh=>absurd h δ,λh=>absurd h δ,λh=>absurd h δ,λ_=>hk,λh=>absurd h δ,λ_ hph=>absurd hph (b.p15 (.inr c16)),λ_ h=>absurd rfl h,λh=>absurd h δ,λh=>absurd h δ⟩;obtain⟨I',B',ht'⟩:=Cu (t':={ t with pc:=14 }) I B ht I.sh (Kp.refl i _) (BK.refl S) (T.upd (Kp.refl i _) rfl rfl hpc ho (.bs (b1.eqv rfl rfl rfl rfl rfl rfl)));refine⟨_,g,rfl,I',B'.mono (ZW c),.inr ⟨_,ht',.inr ?_⟩⟩;rw[c16];show rk 14 < rk 16;decide
 ·rw[CI ω ω];simp only[z_o];exact (Qi hc I1 B1 ht opu b (.inr c16) (rdv ω ω) rfl).out
theorem TD (hc:c < 900000) (I:IG P S g) (B:Bd c S) (ht:idx S.th i = some t) (hp:t.pc≠0):Out P c i t.pc (S.tstep i):=by
 have T:=I.ti i t ht;rcases T.run with ⟨h,_⟩ | ⟨o,ho,r⟩
 ·exact absurd h hp
 unfold Sim.tstep;rw[ht];simp only[Yn,z_o];cases r with
 | bs b=>
  have hbp:=b.p;by_cases c1:t.pc≤3∨t.pc = 11∨t.pc = 15
  ·rw[if_pos c1];exact Qd I B ht ho b (by unfold Gu;omega)
  rw[if_neg c1];by_cases c4:t.pc = 4
  ·rw[if_pos c4];exact UA hc I B ht ho b c4
  rw[if_neg c4,if_neg ω,if_neg ω];exact TA hc I B ht ho b ω ω ω
 | cp b r e cp=>
  have hcp:=cp.p;rw[if_neg ω,if_neg ω,if_neg ω,if_pos ω];exact PO I B ht ho b r e cp
 | mg m=>
  have hm:=m.p;rw[if_neg ω,if_neg ω,if_pos ω];exact Rm hc I B ht ho m
theorem TO:∀(n c:Nat) (S:Sim) (g:Gh) (t:Thr),c + n < 900000→IG P S g→Bd c S→idx S.th i = some t→(t.pc = 0∨S.used = true∨rk t.pc < n)→∀m,n < m→∃S' g',S.tloop m i = some S'∧IG P S' g'∧Bd (c + n) S':=by
 intro n;induction n with
 | zero=>
  intro c S g t hc I B ht hr m hm;obtain⟨m,rfl⟩:∃k,m = k + 1:=⟨m - 1,ω⟩;refine⟨S,g,?_,I,B⟩;unfold Sim.tloop;rw[ht];simp only[Yn,z_o];rw[if_pos];rcases hr with h | h | h
  ·exact .inr h
  ·exact .inl h
  ·omega
 | succ n ih=>
  intro c S g t hc I B ht hr m hm;obtain⟨m,rfl⟩:∃k,m = k + 1:=⟨m - 1,ω⟩;unfold Sim.tloop;rw[ht];simp only[Yn,z_o];by_cases hs:S.used = true∨t.pc = 0
  ·rw[if_pos hs];exact⟨S,g,rfl,I,B.mono ω⟩
  ·rw[if_neg hs];obtain⟨S',g',h1,I',B',hn⟩:=TD ω I B ht (λh=>hs (.inr h));rw[h1];simp only[z_o];have hr' : rk t.pc < n + 1:=by
    rcases hr with h | h | h
    ·exact absurd (.inr h) hs
    ·exact absurd (.inl h) hs
    ·exact h
   have hlen:=(My ht);have ht' : ∃t',idx S'.th i = some t'∧(t'.pc = 0∨S'.used = true∨rk t'.pc < n):=by
    rcases hn with h | ⟨t',h2,h3⟩
    ·have:∃t',idx S'.th i = some t':=by
      have e1:=I'.pl;have e2:=I.pl;rw[I'.pg] at e1;rw[I.pg] at e2;exact⟨_,NK (d:=t) hlen.1 ω⟩
     obtain⟨t',h2⟩:=this;exact⟨t',h2,.inr (.inl h)⟩
    ·exact⟨t',h2,h3.imp id λh=>.inr ω⟩
   obtain⟨t',h2,h3⟩:=ht';obtain⟨S2,g2,e2,I2,B2⟩:=ih (c + 1) S' g' t' ω I' B' h2 h3 m ω;exact⟨S2,g2,e2,I2,B2.mono ω⟩
end
end Sm
end
section
namespace Sm
variable {P:List (List Op)}
theorem Nt {o:Op} {AC:List Int} (ok:Q5 o = true) (h:DX o AC 0 = 0) :
  (o.kind≠1→o.kind≠8→0≤o.a∧o.a < AC.length)∧(o.kind = 3∨o.kind = 6∨o.kind = 7→0≤o.b∧o.b < AC.length)∧(o.kind = 7→0≤o.c∧o.c < AC.length)∧
  (o.kind≠1→o.kind≠6→o.kind≠8→o.kind≠9→(idx AC o.a).getD 0≠0)∧(o.kind = 1∨o.kind = 2∨o.kind = 9→AC.length≠8):=by
 have hk:1≤o.kind∧o.kind≤11:=by
  simp only[Q5,z_b,z_d] at ok;exact ok.1
 unfold DX at h;have hc:o.kind = 1∨o.kind = 2∨o.kind = 3∨o.kind = 4∨o.kind = 5∨o.kind = 6∨o.kind = 7∨o.kind = 8∨o.kind = 9∨o.kind = 10∨o.kind = 11:=ω
 rcases hc with k | k | k | k | k | k | k | k | k | k | k<;>simp only[k] at h ⊢<;>simp[E6,hnd] at h ⊢
 all_goals (first | omega | skip)
section
variable {c:Nat} {S:Sim} {g:Gh} {i:Int} {t:Thr} {o:Op}
theorem IJ {α:Type} {l:List α} {i:Int} {a:α} (h:idx l i = some a):a∈l:=by
 unfold idx at h;split at h
 ·exact List.mem_of_getElem? h
 ·cases h
theorem Fo {α:Type} {l:List α} {i:Int} (h:0≤i∧i < l.length):∃a,idx l i = some a∧a∈l:=by
 obtain⟨h0,h1⟩:=h;have:idx l i = some (l[i.toNat]'(ω)):=by unfold idx;rw[if_pos h0,Yi]
 exact⟨_,this,IJ this⟩
theorem UG (hc:c < 900000) (I:IG P S g) (B:Bd c S) (ht:idx S.th i = some t) (ho:S.opOf i t = some o) (hp:t.pc = 0):∃S' g',S.begin_ i = some S'∧IG P S' g'∧Bd (c + 1) S':=by
 have T:=I.ti i t ht;have hgk:t.g = 0∧t.k = 0:=by
  rcases T.run with h | ⟨o',h,r⟩
  ·exact h.2
  ·exfalso;cases r with
   | bs b=>have:=b.p;omega
   | cp _ _ _ cp=>have:=cp.p;omega
   | mg m=>have:=m.p;omega
 have ev:∀code,∃S' g',S.event i 0 code = some S'∧IG P S' g'∧Bd (c + 1) S':=λcode=>by
  obtain⟨S',h1,h2,h3,_⟩:=Ew hc I B ht ho 0 code;exact⟨S',g,h1,h2,h3⟩
 unfold Sim.begin_;rw[ht];simp only[Yn,z_o];rw[ho];simp only[z_o];split
 ·exact ev 1
 rename_i hok;have hok:Q5 o = true:=by simpa using hok
 split
 ·exact ev _
 rename_i hcode;have hcode:DX o t.AC 0 = 0:=by simpa using hcode
 have hk:1≤o.kind∧o.kind≤11:=by
  simp only[Q5,z_b,z_d] at hok;exact hok.1
 obtain⟨fa,fb,fc,fz,f8⟩:=Nt hok hcode;have rl:=T.rl;have hL:∀(a:Int) (r:Int),idx t.AC a = some r→r≠0→g.L r:=λa r h h0=>T.rt r (IJ h) h0
 split
 ·rename_i k8;have hz:=I.szok rfl B hc;have hz2:(S.setT i { t with AC:=t.AC.take (t.AC.length - 1) }).sz = true:=by
   refine Uj (c:=c) ⟨B.ev,B.old,B.cy,B.fu,B.st,B.pn⟩ hc λu hu=>?_
   rcases Zm (show u∈AT S.th i _ from hu) with h | h
   ·have:=I.AC u h;omega
   ·rw[h];simp;omega
  rw[EK hz2 (Fi ht) (by have:=I.next ht ho;exact this)];obtain⟨I',B',_⟩:=Fy (ans:=0) (code:=0) I B ht ho I.sh (Kp.refl i _) (BK.refl S) (t.AC.take (t.AC.length - 1)) (λa h=>T.rt a (ZO h)) (by simp;omega);refine⟨_,g,?_,I',B'⟩;unfold Sim.evd Sim.setT;simp only[Ic]
 split
 ·rename_i k8 k9;obtain⟨a,ha,ham⟩:=Fo (fa ω ω);rw[ha];simp only[z_o];obtain⟨S',h1,h2,h3,_⟩:=NQ hc I B ht ho (a:=a) (T.rt a ham) (by have:=f8 ω;omega);exact⟨S',g,h1,h2,h3⟩
 split
 ·rename_i k8 k9 k1;obtain⟨I',B',_⟩:=Cu (t':={ t with pc:=30 }) I B ht I.sh (Kp.refl i _) (BK.refl S)
   ⟨T.rt,T.rl,T.nx,λo' h' _ _=>by have:=f8 ω;show t.AC.length < 8;omega,.inr ⟨o,ho,.mg ⟨σ,k1,by
    simp only[Q5,z_b,ZD,k1] at hok
    simpa using hok.2,σ,σ,σ,σ,σ,σ,σ⟩⟩⟩
  exact⟨_,g,rfl,I',B'.mono (ZW c)⟩
 rename_i k8 k9 k1;obtain⟨a,ha,ham⟩:=Fo (fa k1 k8);have ha0:o.kind≠6→a≠0:=λk6=>by
  have:=fz k1 k6 k8 k9;rw[ha] at this;exact this
 rw[ha];simp only[z_o];have fin:∀(gg kk:Int),(gg≠0→g.L gg)→(kk≠0→g.L kk)→∃S' g',some (S.setT i { t with pc:=1,h:=a,g:=gg,k:=kk }) = some S'∧IG P S' g'∧Bd (c + 1) S':=λgg kk hg hkk=>by
  have b1:Bs (xof S g) o { t with pc:=1,h:=a,g:=gg,k:=kk } 1:=⟨δ,⟨ω,ω,ω,ω⟩,T.rt a ham,hg,hkk,ha0,λh=>absurd h δ,λh=>absurd h δ,λh=>absurd h δ,λh=>absurd h δ,λh=>absurd h δ,λh=>absurd h δ,λh=>absurd h δ,λh=>absurd h δ,λh=>absurd h δ,λh=>absurd h δ,λh=>absurd h δ,λh=>absurd h δ,λh=>absurd h δ,λh=>absurd h δ,λh=>absurd h δ⟩;obtain⟨I',B',_⟩:=Cu (t':={ t with pc:=1,h:=a,g:=gg,k:=kk }) I B ht I.sh (Kp.refl i _) (BK.refl S)
   ⟨T.rt,T.rl,T.nx,λo' h' _ hk'=>by
    have:o' = o:=by
     have h2:S.opOf i t = some o':=h'
     rw[ho] at h2;cases h2;rfl
    subst this
    have:=f8 ω;show t.AC.length < 8;omega,.inr ⟨o,ho,.bs b1⟩⟩
  exact⟨_,g,rfl,I',B'.mono (ZW c)⟩
 by_cases hb:o.kind = 3∨o.kind = 6∨o.kind = 7
 ·obtain⟨b,hb',hbm⟩:=Fo (fb hb);rw[if_pos hb,hb'];simp only[z_o];by_cases h7:o.kind = 7
  ·obtain⟨k,hk',hkm⟩:=Fo (fc h7);rw[if_pos h7,hk'];simp only[z_o];exact fin b k (T.rt b hbm) (T.rt k hkm)
  ·rw[if_neg h7];simp only[z_o];exact fin b t.k (T.rt b hbm) (λh=>absurd hgk.2 h)
 ·rw[if_neg hb];simp only[z_o];rw[if_neg ω];simp only[z_o];exact fin t.g t.k (λh=>absurd hgk.1 h) (λh=>absurd hgk.2 h)
theorem YE (pc:Int):rk pc≤4:=by
 unfold rk;split<;>(try split)<;>(try split)<;>(try split)<;>(try split)<;>(try split)<;>(try split)<;>(try split)<;>decide
theorem SA {n:Nat} (hc:c + 5 < 900000) (hn:5 < n) (I:IG P S g) (B:Bd c S) (h0:0≤i) (h1:i < S.th.length):∃S' g',S.thread n i = some S'∧IG P S' g'∧Bd (c + 5) S':=by
 obtain⟨t,ht,_⟩:=Fo ⟨h0,h1⟩;have T:=I.ti i t ht;unfold Sim.thread;rw[ht];simp only[Yn,z_o];split
 ·rename_i hp;split
  ·exact⟨S,g,rfl,I,B.mono ω⟩
  ·obtain⟨p,hp',hpm⟩:=Fo (l:=S.Aa) (i:=i) ⟨h0,by rw[I.pl];exact h1⟩;rw[hp'];simp only[z_o];split
   ·rename_i hlt;obtain⟨o,ho',_⟩:=Fo ⟨T.nx,hlt⟩;have ho:S.opOf i t = some o:=by unfold Sim.opOf;rw[hp'];exact ho'
    obtain⟨S',g',e1,e2,e3⟩:=UG ω I B ht ho hp;exact⟨S',g',e1,e2,e3.mono ω⟩
   ·exact⟨S,g,rfl,I,B.mono ω⟩
 ·rename_i hp;exact TO 5 c { S with used:=false } g t ω (I.usd false) (B.usd false) ht (.inr (.inr (by have:=YE t.pc;omega))) n hn
end
end Sm
end
section
namespace Sm
variable {P:List (List Op)}
theorem Rk {f:Nat→Bool} {n:Nat} (h:∀k,f k = true→k < n):∀N,(List.range N).countP f≤n:=by
 have:∀N,(List.range N).countP f≤min N n:=by
  intro N;induction N with
  | zero=>simp
  | succ N ih=>
   rw[List.range_succ,List.countP_append,List.countP_singleton];split
   ·have:=h N (by assumption);omega
   ·omega
 intro N;have:=this N;omega
theorem QP {f q:Nat→Bool} {lo s:Nat} (h:∀k,q k = (f k || (decide (lo≤k) && decide (k < lo + s)))) (hd:∀k,lo≤k→k < lo + s→f k = false):∀N,(List.range N).countP q = (List.range N).countP f + (min (lo + s) N - lo):=by
 intro N;induction N with
 | zero=>simp
 | succ N ih=>
  rw[List.range_succ,List.countP_append,List.countP_append,List.countP_singleton,List.countP_singleton,ih,h N];by_cases c:lo≤N∧N < lo + s
  ·rw[hd N c.1 c.2];simp[c.1,c.2];omega
  ·cases hf:f N
   ·have:(decide (lo≤N) && decide (N < lo + s)) = false:=by simp;omega
    rw[this];simp;omega
   ·simp;omega
open Classical in
theorem Wn {x y:X} (H:Sh x) (hw:y.w = x.w) (hm' : ∀b,0≤b→mv y.m b = true→x.L b) {r:Int} (h0:1≤r) (h1:r < x.t.length):(cnt y r:Int)≤(rv x.t r).top - 16 * r:=by
 have R:=H.g.ok.row r h0 h1;have:cnt y r≤((rv x.t r).top - 16 * r).toNat:=by
  unfold cnt;rw[hw];rw[show (List.range 16).countP _ = (List.range 16).countP (λ(k:Nat)=>decide (k < 16∧∃a,0≤a∧mv y.m a = true∧a≤16 * r + (k:Int)∧16 * r + (k:Int) < a + sz x.w a)) from List.countP_congr λk hk=>by
   have:=Zq.1 hk
   simp[this]]
  refine Rk (λk hk=>?_) 16;obtain⟨k16,a,a0,hm,h2,h3⟩:=z_f hk;have:=H.g.inn (H.lb a (hm' a a0 hm));have e:a / 16 = r:=ω
  rw[e] at this;omega
 have:=R.t0;omega
open Classical in
theorem P6 {x y:X} (H:Sh x) {a:Int} (hL:x.L a) (hm:mv x.m a = false) (hy:y.m = AT x.m a true) (hw:y.w = x.w) (r:Int) (h0:1≤r) (h1:r < x.t.length) :
  (cnt y r:Int) = cnt x r + (if r = a / 16 then sz x.w a else 0):=by
 have g:=H.g.inn (H.lb a hL);have hml:=H.ml;have em:∀b,0≤b→mv y.m b = if b = a then true else mv x.m b:=λb hb=>by rw[hy];exact Pa ω ω hb
 by_cases hr:r = a / 16
 ·rw[if_pos hr];have t1:=(H.g.ok.row r h0 h1).t1;rw[← hr] at g;have key:∀k:Nat,k < 16→((∃b,0≤b∧mv y.m b = true∧b≤16 * r + (k:Int)∧16 * r + (k:Int) < b + sz y.w b)↔((∃b,0≤b∧mv x.m b = true∧b≤16 * r + (k:Int)∧16 * r + (k:Int) < b + sz x.w b)∨((a - 16 * r).toNat≤k∧k < (a - 16 * r).toNat + (sz x.w a).toNat))):=λk hk=>by
   rw[hw];constructor
   ·rintro⟨b,b0,hb,b1,b2⟩;rw[em b b0] at hb;by_cases c:b = a
    ·subst c;right;omega
    ·rw[if_neg c] at hb;exact .inl ⟨b,b0,hb,b1,b2⟩
   ·rintro (⟨b,b0,hb,b1,b2⟩ | h)
    ·refine⟨b,b0,?_,b1,b2⟩;rw[em b b0];split
     ·rfl
     ·exact hb
    ·exact⟨a,ω,by rw[em a ω,if_pos rfl],ω,ω⟩
  have dis:∀k:Nat,(a - 16 * r).toNat≤k→k < (a - 16 * r).toNat + (sz x.w a).toNat→¬ ∃b,0≤b∧mv x.m b = true∧b≤16 * r + (k:Int)∧16 * r + (k:Int) < b + sz x.w b:=λk k1 k2=>by
   rintro⟨b,b0,hb,b1,b2⟩;obtain⟨e1,_⟩:=sep H.g (a:=a) (b:=b) (k:=16 * r + k - a) (l:=16 * r + k - b) (H.lb a hL) (H.lb b (H.mt b b0 hb).1) ω ω ω ω ω;subst e1;rw[hm] at hb;cases hb
  have e1:cnt y r = (List.range 16).countP (λ(k:Nat)=>decide (k < 16∧∃b,0≤b∧mv y.m b = true∧b≤16 * r + (k:Int)∧16 * r + (k:Int) < b + sz y.w b)):=List.countP_congr λk hk=>by
   have:=Zq.1 hk;simp[this]
  have e2:cnt x r = (List.range 16).countP (λ(k:Nat)=>decide (k < 16∧∃b,0≤b∧mv x.m b = true∧b≤16 * r + (k:Int)∧16 * r + (k:Int) < b + sz x.w b)):=List.countP_congr λk hk=>by
   have:=Zq.1 hk;simp[this]
  rw[e1,e2,QP (lo:=(a - 16 * r).toNat) (s:=(sz x.w a).toNat) (f:=λ(k:Nat)=>decide (k < 16∧∃b,0≤b∧mv x.m b = true∧b≤16 * r + (k:Int)∧16 * r + (k:Int) < b + sz x.w b)) (λk=>?_) (λk k1 k2=>?_) 16]
  ·omega
  ·by_cases k16:k < 16
   ·have:=key k k16;simp only[k16,true_and];rw[Zb];simp only[z_d,ZD,z_b];exact this
   ·rw[Zb];simp only[z_d,ZD,z_b];omega
  ·have:=dis k k1 k2;exact decide_eq_false λh=>this h.2
 ·rw[if_neg hr,Int.add_zero];congr 1;refine List.countP_congr λk hk=>?_
  have k16:=Zq.1 hk;simp only[z_d];rw[hw];have t1:=(H.g.ok.row r h0 h1).t1;constructor
  ·rintro⟨b,b0,hb,b1,b2⟩;rw[em b b0] at hb;by_cases c:b = a
   ·subst c;omega
   ·rw[if_neg c] at hb;exact⟨b,b0,hb,b1,b2⟩
  ·rintro⟨b,b0,hb,b1,b2⟩;refine⟨b,b0,?_,b1,b2⟩;rw[em b b0];split
   ·rfl
   ·exact hb
theorem Tc {p:Int} {x:X} {sk' old' : List Int} (H:Sh x) (hs:∀v∈sk',x.L v) (ho:∀v∈old',x.L v) (hl:∀v,(v∈x.sk∨v∈x.old)→Lg { x with sk:=sk',old:=old' } v):Sh { x with sk:=sk',old:=old' }∧Kp p x { x with sk:=sk',old:=old' }:=by
 have lg:∀v,Lg x v→Lg { x with sk:=sk',old:=old' } v:=λv h=>by
  rcases h with h | h | h | h | h
  ·exact .inl h
  ·exact .inr (.inl h)
  ·exact hl v (.inl h)
  ·exact hl v (.inr h)
  ·exact .inr (.inr (.inr (.inr h)))
 refine⟨⟨H.g,H.lb,H.rf,H.st,H.fw,H.ml,H.mt,H.ph,H.nf,H.lm,H.pl,H.fm,H.nb,H.af,λhp=>?_⟩,?_⟩
 ·have M:=H.mp hp;exact⟨hs,ho,M.mn,λa h=>⟨(M.l0 a h).1,(M.l0 a h).2.1,lg _ (M.l0 a h).2.2⟩,M.ql,λa j h ht j0 j1=>(M.un a j h ht j0 j1).imp id (lg _),M.cov⟩
 ·exact⟨rfl,rfl,rfl,λ_ h=>h,λ_ h=>h,λ_ h _=>h,λ_ _=>Iff.rfl,λ_ _=>rfl,λ_ _ h _=>⟨⟨h,rfl,rfl⟩,λ_ _ _=>rfl⟩,λ_ _=>rfl,λ_ _ _ _ _ _=>rfl,λ_ _ _=>rfl,λ_=>lg,rfl,λ_ _ _ h _ _ _ _=>⟨h,rfl⟩⟩
theorem Xm {p:Int} {x:X} {a:Int} {sk' : List Int} (H:Sh x) (hph:x.ph = 1) (hL:x.L a) (ht:a < x.tm a) (hm:mv x.m a = false) (hs:∀v∈x.sk,v∈sk'∨v = a) (hs' : ∀v∈sk',v∈x.sk) :
  Sh { x with m:=AT x.m a true,t:=AT x.t (a / 16) { rv x.t (a / 16) with AO:=(rv x.t (a / 16)).AO + sz x.w a },sk:=sk' }∧
  Kp p x { x with m:=AT x.m a true,t:=AT x.t (a / 16) { rv x.t (a / 16) with AO:=(rv x.t (a / 16)).AO + sz x.w a },sk:=sk' }:=by
 obtain⟨g1,g2,g3,g4,g5,g6,g7,g8⟩:=H.g.inn (H.lb a hL);have hml:=H.ml;have M:=H.mp hph;have em:∀b,0≤b→mv (AT x.m a true) b = if b = a then true else mv x.m b:=λb hb=>Pa ω ω hb
 have et:∀r,0≤r→rv (AT x.t (a / 16) { rv x.t (a / 16) with AO:=(rv x.t (a / 16)).AO + sz x.w a }) r = if r = a / 16 then { rv x.t (a / 16) with AO:=(rv x.t (a / 16)).AO + sz x.w a } else rv x.t r:=λr hr=>DS ω g3 hr
 have ek:∀r,0≤r→(rv (AT x.t (a / 16) { rv x.t (a / 16) with AO:=(rv x.t (a / 16)).AO + sz x.w a }) r).kind = (rv x.t r).kind:=λr r0=>by
  rw[et r r0];split
  ·subst r;rfl
  ·rfl
 have es:∀r,0≤r→(rv (AT x.t (a / 16) { rv x.t (a / 16) with AO:=(rv x.t (a / 16)).AO + sz x.w a }) r).BE = (rv x.t r).BE:=λr r0=>by
  rw[et r r0];split
  ·subst r;rfl
  ·rfl
 have eo:∀r,0≤r→(rv (AT x.t (a / 16) { rv x.t (a / 16) with AO:=(rv x.t (a / 16)).AO + sz x.w a }) r).AV = (rv x.t r).AV:=λr r0=>by
  rw[et r r0];split
  ·subst r;rfl
  ·rfl
 have ep:∀r,0≤r→(rv (AT x.t (a / 16) { rv x.t (a / 16) with AO:=(rv x.t (a / 16)).AO + sz x.w a }) r).top = (rv x.t r).top:=λr r0=>by
  rw[et r r0];split
  ·subst r;rfl
  ·rfl
 have hf:∀b,BZ (AT x.t (a / 16) { rv x.t (a / 16) with AO:=(rv x.t (a / 16)).AO + sz x.w a }) b↔BZ x.t b:=λb=>⟨λh=>⟨h.1,by have:=h.1;have:=h.2;rw[ek _ ω] at this;exact this⟩,λh=>⟨h.1,by have:=h.1;rw[ek _ ω];exact h.2⟩⟩
 have tm:∀b,0≤b→X.tm { x with m:=AT x.m a true,t:=AT x.t (a / 16) { rv x.t (a / 16) with AO:=(rv x.t (a / 16)).AO + sz x.w a },sk:=sk' } b = x.tm b:=λb hb=>es (b / 16) ω
 have L0:∀b,x.L b→0≤b:=λb h=>by have:=H.g.inn (H.lb b h);omega
 have B0:∀b,x.B b→0≤b:=λb h=>by have:=H.g.inn h;omega
 have lg:∀v,Lg x v→Lg { x with m:=AT x.m a true,t:=AT x.t (a / 16) { rv x.t (a / 16) with AO:=(rv x.t (a / 16)).AO + sz x.w a },sk:=sk' } v:=λv h=>by
  have ma:mv (AT x.m a true) a = true:=by rw[em a ω,if_pos rfl]
  rcases h with h | h | h | h | h
  ·exact .inl h
  ·by_cases c:0≤v
   ·right;left;show mv (AT x.m a true) v = true;rw[em v c];split
    ·rfl
    ·exact h
   ·right;left;show mv (AT x.m a true) v = true;unfold mv gv at h ⊢;unfold AT;rw[show v.toNat = 0 from ω] at h ⊢;rw[Ym] at h ⊢;rw[List.getElem?_set_ne ω];exact h
  ·rcases hs v h with h | h
   ·exact .inr (.inr (.inl h))
   ·subst h;exact .inr (.inl ma)
  ·exact .inr (.inr (.inr (.inl h)))
  ·exact .inr (.inr (.inr (.inr ⟨h.1,by rw[tm v h.1];exact h.2⟩)))
 have len:(AT x.t (a / 16) { rv x.t (a / 16) with AO:=(rv x.t (a / 16)).AO + sz x.w a }).length = x.t.length:=σ
 have R:=H.g.ok.row (a / 16) g2 g3;have cle:(rv x.t (a / 16)).AO + sz x.w a≤(rv x.t (a / 16)).top - 16 * (a / 16):=by
  have e:=P6 (y:={ x with m:=AT x.m a true }) H hL hm rfl rfl (a / 16) g2 g3;rw[if_pos rfl,← M.cov (a / 16) g2 g3] at e;rw[← e];refine Wn (y:={ x with m:=AT x.m a true }) H rfl (λb b0 h=>?_) g2 g3;have h:mv (AT x.m a true) b = true:=h;rw[em b b0] at h;by_cases c:b = a
  ·subst c;exact hL
  ·rw[if_neg c] at h;exact (H.mt b b0 h).1
 refine⟨⟨⟨by rw[len];exact H.g.len,?_,λb h=>?_,λb h=>?_,λr r0 r1=>?_,H.g.dj⟩,H.lb,H.rf,λb h hn=>H.st b h λc=>hn ((hf b).2 c),λb h hfr hne=>?_,by simpa using hml,λb b0 h=>?_,H.ph,λhp r r0 hk=>H.nf hp r r0 (by rw[ek r r0] at hk;exact hk),λhp=>absurd hp (by show ¬ 2≤x.ph;omega),λb h=>⟨(H.pl b h).1,λc=>(H.pl b h).2 ((hf b).1 c)⟩,λb h hfr=>?_,λh1 b h ht'=>H.nb h1 b h (by rw[← tm b (B0 b h)];exact ht'),λh3=>absurd h3 (by show ¬ x.ph = 3;omega),λhp=>?_⟩,?_⟩
 ·refine TOk.set H.g.ok g2 g3 ⟨R.k0,R.k1,R.t0,R.t1,R.s0,R.s1,?_,cle,R.fr,R.ow,R.o0,R.o1⟩ λs s0 s1 hne ho he=>hne (H.g.ok.own s (a / 16) s0 s1 g2 g3 (by rw[he];exact ho) he)
  have:=R.l0;show 0≤(rv x.t (a / 16)).AO + sz x.w a;omega
 ·rw[ep _ (by have:=B0 b h;omega)];exact H.g.at_ b h
 ·rw[ep _ (by have:=B0 b h;omega)];exact H.g.nx b h
 ·rw[ep r ω];exact H.g.bs r r0 (by rw[← len];exact r1)
 ·obtain⟨b1,b2,b3⟩:=H.fw b h ((hf b).1 hfr) hne;exact⟨b1,λc=>b2 ((hf _).1 c),b3⟩
 ·have h:mv (AT x.m a true) b = true:=h;rw[em b b0] at h;rw[tm b b0];by_cases c:b = a
  ·subst c;exact⟨hL,ht⟩
  ·rw[if_neg c] at h;exact H.mt b b0 h
 ·show mv (AT x.m a true) b = true;rw[em b (L0 b h)];split
  ·rfl
  ·exact H.fm b h ((hf b).1 hfr)
 ·refine⟨λv h=>M.sk v (hs' v h),M.old,λY h2 h3 b hb hbt=>M.mn Y h2 (λc j hc hct hy j0 j1 hq=>h3 c j hc (by rw[tm c (L0 c hc)];exact hct) hy j0 j1 hq) b hb (by rw[tm b (L0 b hb)] at hbt;exact hbt),λb h=>⟨(M.l0 b h).1,by rw[tm b (L0 b (M.l0 b h).1)];exact (M.l0 b h).2.1,lg _ (M.l0 b h).2.2⟩,λb j hb hbt j0 j1 hq=>?_,λb j hb hbt j0 j1=>(M.un b j hb (by rw[tm b (L0 b hb)] at hbt;exact hbt) j0 j1).imp id (lg _),λr r0 r1=>?_⟩
  ·obtain⟨q1,q2⟩:=M.ql b j hb (by rw[tm b (L0 b hb)] at hbt;exact hbt) j0 j1 hq;exact⟨q1,by rw[tm _ (L0 _ q1)];exact q2⟩
  ·have r1:r < x.t.length:=by rw[← len];exact r1
   show (rv (AT x.t (a / 16) { rv x.t (a / 16) with AO:=(rv x.t (a / 16)).AO + sz x.w a }) r).AO = _;refine Eq.trans ?_ (P6 (y:={ x with m:=AT x.m a true,t:=AT x.t (a / 16) { rv x.t (a / 16) with AO:=(rv x.t (a / 16)).AO + sz x.w a },sk:=sk' }) H hL hm rfl rfl r r0 r1).symm;rw[et r ω];have:=M.cov r r0 r1;split
   ·subst r;show (rv x.t (a / 16)).AO + sz x.w a = _;omega
   ·omega
 ·exact⟨rfl,len,rfl,λ_ h=>h,λ_ h=>h,λ_ h _=>h,λr r0=>by rw[show (rv _ r).kind = (rv x.t r).kind from ek r r0],es,λr r0 hk _=>⟨⟨by rw[show (rv _ r).kind = (rv x.t r).kind from ek r r0];exact hk,eo r r0,ep r r0⟩,λ_ _ _=>rfl⟩,λ_ _=>rfl,λ_ _ _ _ _ _=>rfl,λ_ _ _=>rfl,λ_=>lg,rfl,λ_ _ _ h _ _ _ _=>⟨h,rfl⟩⟩
end Sm
end
section
namespace Sm
variable {P:List (List Op)}
theorem IG.cstep {S S' : Sim} {g g' : Gh} (I:IG P S g) (hth:S'.th = S.th) (hpc:(S'.Aa,S'.c) = (S.Aa,S.c)) (hsh:Sh (xof S' g')) (K:Kp S.th.length (xof S g) (xof S' g')) (c1:S.Ad = 1→C1 (xof S' g') S'.col)
  (c2:S.Ad = 2→C2 (xof S' g') S.th.length S'.col) (c3:S.Ad = 3→C3 (xof S' g') S'.col) (wt:S'.stop = true→S'.full = false→Wt (xof S' g') S'.col.want):IG P S' g':=by
 have hpg:S'.Aa = S.Aa:=congrArg Prod.fst hpc;have hcc:S'.c = S.c:=congrArg Prod.snd hpc;have hph:S'.Ad = S.Ad:=K.ph;refine⟨by rw[hpg];exact I.pg,hsh,by rw[hth];exact I.n0,by rw[hth];exact I.n1,by rw[hth,hpg];exact I.pl,by rw[hpg];exact I.pp,λj u hu=>?_,λh=>c1 (by rw[← hph];exact h),λh=>by rw[hth];exact c2 (by rw[← hph];exact h),λh=>c3 (by rw[← hph];exact h),wt,by rw[hcc];exact I.rs⟩;rw[hth] at hu;have hj:=My hu;have:S'.opOf j u = S.opOf j u:=by unfold Sim.opOf;rw[hpg]
 rw[this];exact (I.ti j u hu).stable I.sh K ω
def Fu (c:Col):Nat:=if c.pc = 2 then (c.sh.refs - c.i).toNat else 0
def mu (S:Sim):Nat:=3 * S.old.length + 2 * S.col.AM.length + 14 * S.AK.countP (λb=>!b) + 3 * Fu S.col
section
variable {c:Nat} {S:Sim} {g:Gh}
theorem VZ {l:List Bool} {a:Int} (h0:0≤a) (h1:a < l.length) (h:mv l a = false):(AT l a true).countP (λb=>!b) + 1 = l.countP (λb=>!b):=by
 have e:l[a.toNat]'(ω) = false:=by
  have:=Fm (d:=false) (l:=l) (k:=a.toNat) ω;rw[← this,show ((a.toNat:Nat):Int) = a from ω];exact h
 have hp:0 < l.countP (λb=>!b):=List.countP_pos_iff.2 ⟨_,Yq (by omega:a.toNat < l.length),by rw[e];rfl⟩;unfold AT;rw[List.countP_set (by omega:a.toNat < l.length),e];simp;omega
theorem C1.col {x:X} {c c' : Col} (C:C1 x c) (h:c'.pc = c.pc) (h1:c'.p = c.p) (h2:c'.sh = c.sh) (h3:c'.i = c.i):C1 x c':=by
 refine⟨by rw[h];exact C.pc,by rw[h,h1,h2,h3];exact C.p2,?_⟩;rw[h,h1,h3];exact C.sc
theorem Qt (hc:c < 900000) (I:IG P S g) (B:Bd c S) (h1:S.Ad = 1) (hp:S.col.pc = 1):∃S',S.mark = some S'∧IG P S' g∧Bd c S'∧S'.Ad = 1∧(S'.AG = S.AG∧S'.th = S.th)∧S'.full = S.full∧((S'.stop = true∧S.col.AM = []∧S.old = [])∨(mu S' < mu S∧S'.stop = S.stop∧S'.col.want = S.col.want)):=by
 have M:=I.sh.mp h1;have C:=I.c1 h1;have hz:=I.szok rfl B hc;have hwl:=I.wl;have wts:∀{S' : Sim} {g'},Kp S.th.length (xof S g) (xof S' g')→S'.stop = S.stop→S'.full = S.full→S'.col.want = S.col.want→S'.stop = true→S'.full = false→Wt (xof S' g') S'.col.want:=λK e1 e2 e3 h h'=>by
  rw[e3];exact (I.wt (by rw[← e1];exact h) (by rw[← e2];exact h')).stable I.sh K
 unfold Sim.mark;rw[hz,if_neg δ];rcases List.eq_nil_or_concat S.col.AM with hs | ⟨l,a,hs⟩
 ·rw[if_pos (by rw[hs];rfl)];have hoc:S.old = []∨∃a l,S.old = a :: l:=by cases S.old<;>simp
  rcases hoc with hold | ⟨a,l,hold⟩
  ·refine⟨{ S with stop:=true,col:={ S.col with want:=2 } },by rw[hold],?_,⟨B.ev,B.old,B.cy,B.fu,B.st,B.pn⟩,h1,⟨rfl,rfl⟩,rfl,.inl ⟨rfl,hs,hold⟩⟩;exact I.cstep (g':=g) (S':={ S with stop:=true,col:={ S.col with want:=2 } }) rfl rfl I.sh (Kp.refl _ _) (λ_=>C.col rfl rfl rfl rfl) (λh=>ω) (λh=>ω) (λ_ _=>.inr (.inl ⟨h1,rfl⟩))
  ·obtain⟨H,K⟩:=Tc (p:=S.th.length) (sk':=[a]) (old':=l) I.sh (λv hv=>by
    simp only[Z8] at hv;subst hv;exact M.old v (by show v∈S.old;rw[hold];simp)) (λv hv=>M.old v (by show v∈S.old;rw[hold];simp[hv])) (λv hv=>by
    rcases hv with hv | hv
    ·have hv:v∈S.col.AM:=hv
     rw[hs] at hv;cases hv
    ·have hv:v∈S.old:=hv
     rw[hold] at hv
     rcases Yx.1 hv with h | h
     ·exact .inr (.inr (.inl (by simp[h])))
     ·exact .inr (.inr (.inr (.inl h))))
   have bs:=B.st;rw[hs,hold] at bs;refine⟨{ S with old:=l,col:={ S.col with AM:=[a] } },by rw[hold],?_,⟨B.ev,?_,B.cy,B.fu,?_,B.pn⟩,h1,⟨rfl,rfl⟩,rfl,.inr ⟨?_,rfl,rfl⟩⟩
   ·exact I.cstep (g':=g) (S':={ S with old:=l,col:={ S.col with AM:=[a] } }) rfl rfl H K (λ_=>(C.stable I.sh K rfl h1).col rfl rfl rfl rfl) (λh=>ω) (λh=>ω) (wts K rfl rfl rfl)
   ·have:=B.old;rw[hold] at this;simp at this;show l.length≤c;omega
   ·show [a].length + l.length + 5 * S.AK.countP (λb=>!b) + (if S.col.pc = 2 then (S.col.sh.refs - S.col.i).toNat else 0)≤3000 + c;simp only[Zp,Yt] at bs ⊢;omega
   ·show 3 * l.length + 2 * [a].length + 14 * S.AK.countP (λb=>!b) + 3 * Fu { S.col with AM:=[a] } < 3 * S.old.length + 2 * S.col.AM.length + 14 * S.AK.countP (λb=>!b) + 3 * Fu S.col;rw[hs,hold];have:Fu { S.col with AM:=[a] } = Fu S.col:=rfl;rw[this];simp;omega
 ·rw[List.concat_eq_append] at hs;rw[if_neg (by rw[hs];simp)];simp only[Yn];have e1:S.col.AM.getLast? = some a:=by rw[hs];simp
  have e2:S.col.AM.dropLast = l:=by rw[hs];simp
  have hL:g.L a:=M.sk a (by show a∈S.col.AM;rw[hs];simp);have hls:∀v∈l,v∈S.col.AM:=λv hv=>by rw[hs];simp[hv]
  have hsl:∀v∈S.col.AM,v∈l∨v = a:=λv hv=>by rw[hs] at hv;simpa using hv
  obtain⟨a1,a2,a3,a4,a5,a6⟩:=I.in_ hL;have hml:S.AK.length = S.AA.length:=I.sh.ml;have bs:=B.st;rw[hs,hp,if_neg δ] at bs;simp only[Yk,Z7] at bs;have mus:mu S = 3 * S.old.length + 2 * (l.length + 1) + 14 * S.AK.countP (λb=>!b):=by
   unfold mu Fu;rw[hs,hp,if_neg δ];simp
  rw[e1,e2];simp only[z_o];rw[Bq ω,DB ω a3];simp only[z_o];have hpop:∀(b:a < (rv S.A0 (a / 16)).BE→mv S.AK a = true),∃S',some (S.setC { S.col with AM:=l }) = some S'∧IG P S' g∧Bd c S'∧S'.Ad = 1∧(S'.AG = S.AG∧S'.th = S.th)∧S'.full = S.full∧((S'.stop = true∧S.col.AM = []∧S.old = [])∨(mu S' < mu S∧S'.stop = S.stop∧S'.col.want = S.col.want)):=λb=>by
   obtain⟨H,K⟩:=Tc (p:=S.th.length) (sk':=l) (old':=S.old) I.sh (λv hv=>M.sk v (hls v hv)) M.old (λv hv=>by
    rcases hv with hv | hv
    ·rcases hsl v hv with h | h
     ·exact .inr (.inr (.inl h))
     ·subst h
      by_cases c:v < (rv S.A0 (v / 16)).BE
      ·exact .inr (.inl (b c))
      ·exact .inr (.inr (.inr (.inr ⟨ω,by show (rv S.A0 (v / 16)).BE≤v;omega⟩)))
    ·exact .inr (.inr (.inr (.inl hv))))
   refine⟨_,rfl,?_,⟨B.ev,B.old,B.cy,B.fu,?_,B.pn⟩,h1,⟨rfl,rfl⟩,rfl,.inr ⟨?_,rfl,rfl⟩⟩
   ·exact I.cstep (g':=g) (S':=S.setC { S.col with AM:=l }) rfl rfl H K (λ_=>(C.stable I.sh K rfl h1).col rfl rfl rfl rfl) (λh=>ω) (λh=>ω) (wts K rfl rfl rfl)
   ·show l.length + S.old.length + 5 * S.AK.countP (λb=>!b) + (if S.col.pc = 2 then (S.col.sh.refs - S.col.i).toNat else 0)≤3000 + c;rw[hp,if_neg δ];omega
   ·rw[mus];show 3 * S.old.length + 2 * l.length + 14 * S.AK.countP (λb=>!b) + 3 * Fu { S.col with AM:=l } < _;have:Fu { S.col with AM:=l } = 0:=by unfold Fu;rw[if_neg (by show ¬ S.col.pc = 2;omega)]
    rw[this];omega
  by_cases hlt:a < (rv S.A0 (a / 16)).BE
  ·rw[if_pos hlt,Qe ω ω];simp only[z_o];cases hm:mv S.AK a with
   | true=>
    simp only[an,ZE,if_false];exact hpop λ_=>hm
   | false=>
    simp only[Bool.not_false,if_true];rw[BV ω ω];simp only[z_o];rw[CI ω (by show _ < (S.AA.length:Int);omega)];simp only[z_o];obtain⟨H,K⟩:=Xm (p:=S.th.length) (sk':=l) I.sh h1 hL hlt hm hsl hls;have R:=I.sh.g.ok.row (a / 16) a2 a3;have l0:=R.l0;have l1:=R.l1;have t0:=R.t1;have es:(AJ (wv S.AA (a + 1))).1 = shp S.AA a:=rfl;have esz:AF (shp S.AA a) = sz S.AA a:=rfl;have sb:=FP S.AA a;rw[es,esz,BV (by simp only at l0;omega) (by simp only at l0 l1 t0;omega)];simp only[z_o];have hrem:(if (if 0 < (shp S.AA a).refs then 2 else S.col.pc) = 2 then ((shp S.AA a).refs - 0).toNat else 0)≤4:=by
     by_cases c:0 < (shp S.AA a).refs
     ·rw[if_pos c,if_pos rfl];omega
     ·rw[if_neg c,if_neg ω];omega
    have hu:=VZ (l:=S.AK) (a:=a) ω ω hm;refine⟨_,rfl,?_,⟨B.ev,B.old,B.cy,B.fu,?_,B.pn⟩,h1,⟨rfl,rfl⟩,rfl,.inr ⟨?_,rfl,rfl⟩⟩
    ·refine I.cstep (g':=g) (S':={ S with used:=true,AK:=AT S.AK a true,A0:=AT S.A0 (a / 16) { rv S.A0 (a / 16) with AO:=(rv S.A0 (a / 16)).AO + sz S.AA a },col:={ S.col with AM:=l,p:=a,i:=0,sh:=shp S.AA a,pc:=if 0 < (shp S.AA a).refs then 2 else S.col.pc } }) rfl rfl H K (λ_=>?_) (λh=>ω) (λh=>ω) (wts K rfl rfl rfl);have em:∀b,0≤b→mv (AT S.AK a true) b = if b = a then true else mv S.AK b:=λb hb=>Pa ω ω hb
     refine⟨?_,λh=>?_,λb j b0 hb j0 j1=>?_⟩
     ·show (if 0 < (shp S.AA a).refs then 2 else S.col.pc) = 1∨(if 0 < (shp S.AA a).refs then 2 else S.col.pc) = 2;split
      ·exact .inr rfl
      ·exact .inl hp
     ·have h:(if 0 < (shp S.AA a).refs then 2 else S.col.pc) = 2:=h;refine⟨?_,by show 0≤a;omega,rfl,ZI 0,?_⟩
      ·show mv (AT S.AK a true) a = true;rw[em a ω,if_pos rfl]
      ·show 0 < (shp S.AA a).refs;by_cases c:0 < (shp S.AA a).refs
       ·exact c
       ·rw[if_neg c] at h;omega
     ·have hb:mv (AT S.AK a true) b = true:=hb;rw[em b b0] at hb;by_cases c:b = a
      ·subst c;left;have j1:j < (shp S.AA b).refs:=j1;refine⟨?_,rfl,j0⟩;show (if 0 < (shp S.AA b).refs then 2 else S.col.pc) = 2;rw[if_pos ω]
      ·rw[if_neg c] at hb;right;rcases C.sc b j b0 hb j0 j1 with h | h
       ·omega
       ·exact K.lg h1 _ h
    ·show l.length + S.old.length + 5 * (AT S.AK a true).countP (λb=>!b) + (if (if 0 < (shp S.AA a).refs then 2 else S.col.pc) = 2 then ((shp S.AA a).refs - 0).toNat else 0)≤3000 + c;omega
    ·rw[mus];show 3 * S.old.length + 2 * l.length + 14 * (AT S.AK a true).countP (λb=>!b) + 3 * Fu _ < _;have:Fu { S.col with AM:=l,p:=a,i:=0,sh:=shp S.AA a,pc:=if 0 < (shp S.AA a).refs then 2 else S.col.pc }≤4:=by
      unfold Fu;exact hrem
     refine Nat.lt_of_le_of_lt (Nat.add_le_add_left (Nat.mul_le_mul_left 3 this) _) ?_;omega
  ·rw[if_neg hlt];simp only[z_o,ZE,if_false];exact hpop λh=>absurd h hlt
theorem Qp (hc:c < 900000) (I:IG P S g) (B:Bd c S) (h1:S.Ad = 1) (hp:S.col.pc = 2):∃S',S.look = some S'∧IG P S' g∧Bd c S'∧S'.Ad = 1∧(S'.AG = S.AG∧S'.th = S.th)∧S'.full = S.full∧S'.used = true∧mu S' < mu S∧S'.stop = S.stop∧S'.col.want = S.col.want:=by
 have M:=I.sh.mp h1;have C:=I.c1 h1;have hz:=I.szok rfl B hc;have hwl:=I.wl;obtain⟨p1,p0,psh,pi0,pi1⟩:=C.p2 hp;obtain⟨hL,hlt⟩:=I.sh.mt S.col.p p0 p1;obtain⟨a1,a2,a3,a4,a5,a6⟩:=I.in_ hL;have sb:=FP S.AA S.col.p;have psh:S.col.sh = shp S.AA S.col.p:=psh;rw[psh] at pi1;unfold Sim.look;rw[hz,if_neg δ];simp only[Yn];rw[BV ω ω];simp only[z_o];rw[BV ω ω];simp only[z_o];rw[CI ω ω];simp only[z_o];rw[BV ω ω];simp only[z_o];have hv:=I.sh.rf S.col.p S.col.i hL pi0 pi1;have hin:∀v∈S.col.AM,v∈(if wv S.AA (S.col.p + 2 + S.col.i)≠0 then S.col.AM ++ [wv S.AA (S.col.p + 2 + S.col.i)] else S.col.AM):=λv h=>by
  split
  ·exact ZP _ h
  ·exact h
 obtain⟨H,K⟩:=Tc (p:=S.th.length) (sk':=if wv S.AA (S.col.p + 2 + S.col.i)≠0 then S.col.AM ++ [wv S.AA (S.col.p + 2 + S.col.i)] else S.col.AM) (old':=S.old) I.sh (λv h=>by
  split at h
  ·rcases ZB.1 h with h | h
   ·exact M.sk v h
   ·simp only[Z8] at h;subst h;exact hv (by assumption)
  ·exact M.sk v h) M.old (λv h=>by
  rcases h with h | h
  ·exact .inr (.inr (.inl (hin v h)))
  ·exact .inr (.inr (.inr (.inl h))))
 have bs:=B.st;rw[hp,if_pos rfl,psh] at bs;have hlen:(if wv S.AA (S.col.p + 2 + S.col.i)≠0 then S.col.AM ++ [wv S.AA (S.col.p + 2 + S.col.i)] else S.col.AM).length≤S.col.AM.length + 1:=by split<;>simp
 have hrem:Fu { S.col with AM:=if wv S.AA (S.col.p + 2 + S.col.i)≠0 then S.col.AM ++ [wv S.AA (S.col.p + 2 + S.col.i)] else S.col.AM,i:=S.col.i + 1,pc:=if S.col.i + 1 = S.col.sh.refs then 1 else S.col.pc } + 1≤((shp S.AA S.col.p).refs - S.col.i).toNat:=by
  unfold Fu;show (if (if S.col.i + 1 = S.col.sh.refs then 1 else S.col.pc) = 2 then (S.col.sh.refs - (S.col.i + 1)).toNat else 0) + 1≤_;rw[psh];by_cases c:S.col.i + 1 = (shp S.AA S.col.p).refs
  ·rw[if_pos c,if_neg δ];omega
  ·rw[if_neg c,if_pos hp];omega
 refine⟨_,rfl,?_,⟨B.ev,B.old,B.cy,B.fu,?_,B.pn⟩,h1,⟨rfl,rfl⟩,rfl,rfl,?_,rfl,rfl⟩
 ·refine I.cstep (g':=g) (S':=({ S with used:=true }:Sim).setC { S.col with AM:=if wv S.AA (S.col.p + 2 + S.col.i)≠0 then S.col.AM ++ [wv S.AA (S.col.p + 2 + S.col.i)] else S.col.AM,i:=S.col.i + 1,pc:=if S.col.i + 1 = S.col.sh.refs then 1 else S.col.pc }) rfl rfl H K (λ_=>?_) (λh=>ω) (λh=>ω) (λh h'=>(I.wt h h').stable I.sh K);refine⟨?_,λh=>?_,λb j b0 hb j0 j1=>?_⟩
  ·show (if S.col.i + 1 = S.col.sh.refs then 1 else S.col.pc) = 1∨(if S.col.i + 1 = S.col.sh.refs then 1 else S.col.pc) = 2;split
   ·exact .inl rfl
   ·exact .inr hp
  ·have h:(if S.col.i + 1 = S.col.sh.refs then 1 else S.col.pc) = 2:=h;refine⟨p1,p0,psh,by show 0≤S.col.i + 1;omega,?_⟩;show S.col.i + 1 < S.col.sh.refs;by_cases c:S.col.i + 1 = S.col.sh.refs
   ·rw[if_pos c] at h;cases h
   ·rw[psh] at c ⊢;omega
  ·have j1:j < (shp S.AA b).refs:=j1;rcases C.sc b j b0 hb j0 j1 with ⟨_,h2,h3⟩ | h
   ·subst h2;by_cases c:j = S.col.i
    ·subst c;right;rcases M.un S.col.p S.col.i hL hlt pi0 pi1 with h | h
     ·show Lg _ (g.q (S.col.p + 2 + S.col.i));have h:wv S.AA (S.col.p + 2 + S.col.i) = g.q (S.col.p + 2 + S.col.i):=h;rw[← h];by_cases hv0:wv S.AA (S.col.p + 2 + S.col.i) = 0
      ·exact .inl hv0
      ·refine .inr (.inr (.inl ?_));show _∈(if wv S.AA (S.col.p + 2 + S.col.i)≠0 then S.col.AM ++ [wv S.AA (S.col.p + 2 + S.col.i)] else S.col.AM);rw[if_pos hv0];simp
     ·exact K.lg h1 _ h
    ·left;refine⟨?_,rfl,by show S.col.i + 1≤j;omega⟩;show (if S.col.i + 1 = S.col.sh.refs then 1 else S.col.pc) = 2;rw[if_neg (by rw[psh];omega)];exact hp
   ·exact .inr (K.lg h1 _ h)
 ·show (if wv S.AA (S.col.p + 2 + S.col.i)≠0 then S.col.AM ++ [wv S.AA (S.col.p + 2 + S.col.i)] else S.col.AM).length + S.old.length + 5 * S.AK.countP (λb=>!b) + Fu { S.col with AM:=if wv S.AA (S.col.p + 2 + S.col.i)≠0 then S.col.AM ++ [wv S.AA (S.col.p + 2 + S.col.i)] else S.col.AM,i:=S.col.i + 1,pc:=if S.col.i + 1 = S.col.sh.refs then 1 else S.col.pc }≤3000 + c;omega
 ·have e:mu S = 3 * S.old.length + 2 * S.col.AM.length + 14 * S.AK.countP (λb=>!b) + 3 * ((shp S.AA S.col.p).refs - S.col.i).toNat:=by
   unfold mu Fu;rw[hp,if_pos rfl,psh]
  rw[e];show 3 * S.old.length + 2 * (if wv S.AA (S.col.p + 2 + S.col.i)≠0 then S.col.AM ++ [wv S.AA (S.col.p + 2 + S.col.i)] else S.col.AM).length + 14 * S.AK.countP (λb=>!b) + 3 * Fu { S.col with AM:=if wv S.AA (S.col.p + 2 + S.col.i)≠0 then S.col.AM ++ [wv S.AA (S.col.p + 2 + S.col.i)] else S.col.AM,i:=S.col.i + 1,pc:=if S.col.i + 1 = S.col.sh.refs then 1 else S.col.pc } < _;omega
end
end Sm
end
section
namespace Sm
variable {P:List (List Op)}
theorem P3 {m:List Bool} {row:Rg}:∀(n:Nat) (p:Int),0≤p→row.top - p < n→0 < n→row.top≤m.length→∃q,Ig m row n p = some q∧p≤q∧(row.kind = 4→q < row.top→mv m q = true)∧(row.kind = 4→∀a,p≤a→a < q→mv m a = false)∧(row.kind≠4→q = p)∧(q = p∨q≤row.top):=by
 intro n;induction n with
 | zero=>intro p _ _ h;omega
 | succ n ih=>
  intro p p0 h _ hm;unfold Ig;by_cases c:row.kind = 4∧p < row.top
  ·rw[if_pos c,Qe p0 ω];simp only[Yn,z_o];cases hp:mv m p with
   | true=>
    simp only[if_true];exact⟨p,rfl,ZI p,λ_ _=>hp,λ_ a h1 h2=>ω,λ_=>rfl,.inl rfl⟩
   | false=>
    simp only[ZE,if_false];obtain⟨q,e,h1,h2,h3,h4,h5⟩:=ih (p + 1) ω ω ω hm;refine⟨q,e,ω,h2,λhk a ha hb=>?_,λhk=>absurd c.1 hk,.inr ω⟩;by_cases d:a = p
    ·subst d;exact hp
    ·exact h3 hk a ω hb
  ·rw[if_neg c];exact⟨p,rfl,ZI p,λhk ht=>absurd ⟨hk,ht⟩ c,λ_ a h1 h2=>ω,λ_=>rfl,.inl rfl⟩
theorem Mq {S:Sim} (T:TOk S.A0) (hl:(S.AA.length:Int) = 16 * S.A0.length) (hml:S.AK.length = S.AA.length):∀(n:Nat) (r p:Int),1≤r→r≤S.A0.length→16 * r≤p→p≤16 * r + 16→S.A0.length - r < n→
  ∃r' p',S.walkOut n r p = some (r',p')∧1≤r'∧r'≤S.A0.length∧16 * r'≤p'∧p'≤16 * r' + 16∧p≤p'∧(∀a,BZ S.A0 a→p≤a→a < p'→a < (rv S.A0 (a / 16)).top→mv S.AK a = false)∧(r' < S.A0.length→(rv S.A0 r').kind = 4∧p' < (rv S.A0 r').top∧mv S.AK p' = true):=by
 intro n;induction n with
 | zero=>intro r p _ _ _ _ h;omega
 | succ n ih=>
  intro r p r0 r1 p0 p1 hn;unfold Sim.walkOut;by_cases c:r < S.A0.length
  ·have R:=T.row r r0 c;have R0:=R.t0;have R1:=R.t1;rw[if_pos c,DB ω c];simp only[Yn,z_o];obtain⟨q,e,h1,h2,h3,h4,h5⟩:=P3 (m:=S.AK) (row:=rv S.A0 r) 20 p ω ω ω ω;rw[e];simp only[z_o];have q1:q≤16 * r + 16:=ω
   by_cases d:(rv S.A0 r).kind = 4∧q < (rv S.A0 r).top
   ·rw[if_pos d];refine⟨r,q,rfl,r0,r1,ω,q1,h1,λa hf ha hb _=>h3 d.1 a ha hb,λ_=>⟨d.1,d.2,h2 d.1 d.2⟩⟩
   ·rw[if_neg d,show (r + 1) * 16 = 16 * (r + 1) from ω];obtain⟨r',p',e',g1,g2,g3,g4,g5,g6,g7⟩:=ih (r + 1) (16 * (r + 1)) ω ω ω ω ω;refine⟨r',p',e',g1,g2,g3,g4,ω,λa hf ha hb ht=>?_,g7⟩;by_cases d2:16 * (r + 1)≤a
    ·exact g6 a hf d2 hb ht
    ·have er:a / 16 = r:=ω
     rw[er] at ht;have hk:(rv S.A0 r).kind = 4:=by have:=hf.2;rw[er] at this;exact this
     by_cases d3:a < q
     ·exact h3 hk a ha d3
     ·exfalso;exact d ⟨hk,ω⟩
  ·rw[if_neg c];exact⟨r,p,rfl,r0,r1,p0,p1,ZI p,λa _ h1 h2=>ω,λh=>absurd h c⟩
section
variable {c:Nat} {S:Sim} {g:Gh}
theorem V5 (I:IG P S g) (B:Bd c S) (h2:S.Ad = 2) (hp:S.col.pc = 5):∃S',S.walk = some S'∧IG P S' g∧Bd c S'∧S'.Ad = 2∧(S'.stop = true∨S'.used = true):=by
 have C:=I.c2 h2;have hwl:=I.wl;have hl:(S.AA.length:Int) = 16 * S.A0.length:=I.sh.g.len;have hml:S.AK.length = S.AA.length:=I.sh.ml;have cr1:S.col.r≤S.A0.length:=C.r1;obtain⟨r,p,e,r0,r1,p0,p1,hpp,hno,hat⟩:=Mq I.sh.g.ok hl hml (S.A0.length + 2) S.col.r S.col.p C.r0 C.r1 C.p0 C.p1 (by have:=C.r0;omega);have wk0:∀a,g.L a→BZ S.A0 a→a < p→wv S.AA a≠a:=λa ha hf hlt=>by
  by_cases d:a < S.col.p
  ·rcases C.wk a ha hf d with h | ⟨h,_⟩
   ·exact h
   ·exact absurd hp h
  ·exfalso;have h1:=hno a hf ω hlt (by have:=I.sh.g.inn (I.sh.lb a ha);simp only at this;omega);have h2:mv S.AK a = true:=I.sh.fm a ha hf;rw[h1] at h2;cases h2
 unfold Sim.walk;simp only[Yn];rw[e];simp only[z_o];by_cases d:r = S.A0.length
 ·rw[if_pos d];refine⟨_,rfl,?_,⟨B.ev,B.old,B.cy,B.fu,?_,B.pn⟩,h2,.inl rfl⟩
  ·refine I.cstep (g':=g) (S':={ S with stop:=true,col:={ S.col with r:=r,p:=p,want:=3 } }) rfl rfl I.sh (Kp.refl _ _) (λh=>ω) (λ_=>⟨r0,r1,p0,p1,λa ha hf hlt=>.inl (wk0 a ha hf hlt),.inl hp⟩) (λh=>ω) (λ_ _=>.inr (.inr (.inl ⟨h2,rfl,λa ha hf=>?_⟩)));have:=I.in_ ha;exact wk0 a ha hf ω
  ·exact B.st
 ·rw[if_neg d];obtain⟨k4,pt,pm⟩:=hat ω;obtain⟨hL,_⟩:=I.sh.mt p ω pm;obtain⟨a1,a2,a3,a4,a5,a6⟩:=I.in_ hL;have R1:=(I.sh.g.ok.row r r0 (by simp only;omega)).t1;simp only at R1;have er:p / 16 = r:=ω
  have hf:BZ S.A0 p:=⟨ω,by rw[er];exact k4⟩;rw[BV ω ω];simp only[z_o];rw[CI ω ω];simp only[z_o];have key:∀col' : Col,(col' = { S.col with r:=r,p:=p + 1 }∧wv S.AA p≠p)∨col' = { S.col with r:=r,p:=p + 1,src:=p,pc:=20 }→IG P (({ S with used:=true }:Sim).setC col') g∧Bd c (({ S with used:=true }:Sim).setC col'):=λcol' h=>by
   rcases h with ⟨rfl,hne⟩ | rfl
   ·refine⟨I.cstep (g':=g) (S':=({ S with used:=true }:Sim).setC { S.col with r:=r,p:=p + 1 }) rfl rfl I.sh (Kp.refl _ _) (λh=>ω) (λ_=>⟨r0,r1,by show 16 * r≤p + 1;omega,by show p + 1≤16 * r + 16;omega,λa ha hf hlt=>.inl ?_,.inl hp⟩) (λh=>ω) (λh h'=>I.wt h h'),⟨B.ev,B.old,B.cy,B.fu,B.st,B.pn⟩⟩;by_cases c2:a = p
    ·subst c2;exact hne
    ·exact wk0 a ha hf (by have hlt:a < p + 1:=hlt;omega)
   ·refine⟨I.cstep (g':=g) (S':=({ S with used:=true }:Sim).setC { S.col with r:=r,p:=p + 1,src:=p,pc:=20 }) rfl rfl I.sh (Kp.refl _ _) (λh=>ω) (λ_=>⟨r0,r1,by show 16 * r≤p + 1;omega,by show p + 1≤16 * r + 16;omega,λa ha hf hlt=>?_,.inr (Cp.start hL hf h2)⟩) (λh=>ω) (λh h'=>I.wt h h'),⟨B.ev,B.old,B.cy,B.fu,?_,B.pn⟩⟩
    ·by_cases c2:a = p
     ·right;exact⟨by show (20:Int)≠5;decide,c2⟩
     ·left;exact wk0 a ha hf (by have hlt:a < p + 1:=hlt;omega)
    ·have:=B.st;show S.col.AM.length + S.old.length + 5 * S.AK.countP (λb=>!b) + (if (20:Int) = 2 then _ else 0)≤3000 + c;rw[if_neg δ];omega
  split
  ·obtain⟨k1,k2⟩:=key _ (.inr rfl);exact⟨_,rfl,k1,k2,h2,.inr rfl⟩
  ·obtain⟨k1,k2⟩:=key _ (.inl ⟨rfl,by assumption⟩);exact⟨_,rfl,k1,k2,h2,.inr rfl⟩
theorem Ts (I:IG P S g) (B:Bd c S) (h2:S.Ad = 2) (hp:S.col.pc≠5):∃S' g',S.carry = some S'∧IG P S' g'∧Bd c S'∧S'.Ad = 2∧(S'.stop = true∨S'.used = true):=by
 have C:=I.c2 h2;have hwl:=I.wl;have hn1:=I.n1;rcases C.pc with h | cp
 ·exact absurd h hp
 have p:=cp.p;obtain⟨a1,a2,a3,a4,a5,a6⟩:=I.in_ cp.ls;have B1:=B.usd true;have bs:S.col.AM.length + S.old.length + 5 * S.AK.countP (λb=>!b)≤3000 + c:=by have:=B.st;omega
 have wk:∀{y:X},Kp S.th.length (xof S g) y→∀a,y.L a→BZ y.t a→a < S.col.p→a≠S.col.src→wv y.w a≠a:=λK a ha hf hlt hne=>by
  have hL:=K.lf a ha hf;rcases C.wk a hL (K.frm.1 hf) hlt with d | d
  ·rw[K.fwd a (I.sh.lb _ hL) d];exact d
  ·exact absurd d.2 hne
 have stay:∀{S1:Sim} {g' : Gh} {col' : Col},S1.th = S.th→(S1.Aa,S1.c) = (S.Aa,S.c)→S1.stop = S.stop→S1.full = S.full→Bd c S1→S1.col = S.col→S1.Ad = 2→Sh (xof (S1.setC col') g')→Kp S.th.length (xof S g) (xof (S1.setC col') g')→col'.r = S.col.r→col'.p = S.col.p→col'.AM = S.col.AM→col'.want = S.col.want→
   ((col'.src = S.col.src∧Cp (xof (S1.setC col') g') S.th.length col'.src col'.dst col'.size col'.i col'.word col'.pc)∨(col'.pc = 5∧wv S1.AA S.col.src≠S.col.src))→IG P (S1.setC col') g'∧Bd c (S1.setC col'):=λ{S1 g' col'} e1 e2 e3 e4 B1 e5 e6 H K q1 q2 q3 q4 hc=>by
  refine⟨I.cstep (g':=g') (S':=S1.setC col') e1 e2 H K (λh=>ω) (λ_=>?_) (λh=>ω) (λh h'=>?_),⟨B1.ev,B1.old,B1.cy,B1.fu,?_,B1.pn⟩⟩
  ·refine⟨by show 1≤col'.r;rw[q1];exact C.r0,by show col'.r≤_;rw[q1,K.tl];exact C.r1,by show 16 * col'.r≤col'.p;rw[q1,q2];exact C.p0,by show col'.p≤16 * col'.r + 16;rw[q1,q2];exact C.p1,λa ha hf hlt=>?_,?_⟩
   ·have hlt:a < col'.p:=hlt;rw[q2] at hlt;by_cases c2:a = S.col.src
    ·rcases hc with ⟨h1,h3⟩ | ⟨h1,h3⟩
     ·right;have:=h3.p;exact⟨by show col'.pc≠5;omega,by show a = col'.src;rw[h1,c2]⟩
     ·left;subst c2;exact h3
    ·left;exact wk K a ha hf hlt c2
   ·rcases hc with ⟨h1,h3⟩ | ⟨h1,h3⟩
    ·exact .inr h3
    ·exact .inl h1
  ·show Wt (xof (S1.setC col') g') col'.want;rw[q4];exact (I.wt (by rw[← e3];exact h) (by rw[← e4];exact h')).stable I.sh K
  ·have hpc:col'.pc≠2:=by
    rcases hc with ⟨h1,h3⟩ | ⟨h1,h3⟩
    ·have:=h3.p;omega
    ·omega
   have:=B1.st;show col'.AM.length + S1.old.length + 5 * S1.AK.countP (λb=>!b) + (if col'.pc = 2 then _ else 0)≤3000 + c;rw[if_neg hpc,q3,← e5];omega
 unfold Sim.carry;by_cases c20:S.col.pc = 20
 ·simp only[Yn];rw[if_pos c20,BV ω ω];simp only[z_o];rw[CI ω ω];simp only[z_o];have es:AF (AJ (wv S.AA (S.col.src + 1))).1 = sz S.AA S.col.src:=rfl;rw[es];rcases Fk (o:=(S.th.length:Int)) (size:=sz S.AA S.col.src) I.sh.g.ok ω ω ω ω with h | ⟨t',d,h,R⟩
  ·have h' : BX S.A0 S.th.length (sz S.AA S.col.src) = none:=h;simp only[h'];refine⟨_,g,rfl,I.cstep (g':=g) (S':={ S with used:=true,full:=true,stop:=true }) rfl rfl I.sh (Kp.refl _ _) (λh=>ω) (λ_=>C) (λh=>ω) (λ_ h=>by cases h),⟨B.ev,B.old,B.cy,B.fu,B.st,B.pn⟩,h2,.inl rfl⟩
  ·have h' : BX S.A0 S.th.length (sz S.AA S.col.src) = some (t',d):=h;simp only[h'];obtain⟨H1,K,C'⟩:=Xj (word:=S.col.word) I.sh cp.ls cp.fs cp.p2 R;obtain⟨k1,k2⟩:=stay (S1:={ S with used:=true,A0:=t' }) (g':=g) (col':={ S.col with size:=sz S.AA S.col.src,dst:=d,i:=1,pc:=21 }) rfl rfl rfl rfl ⟨B.ev,B.old,B.cy,B.fu,B.st,B.pn⟩ rfl h2 H1 K rfl rfl rfl rfl (.inl ⟨rfl,C'⟩);exact⟨_,g,rfl,k1,k2,h2,.inr rfl⟩
 simp only[Yn];rw[if_neg c20];have j0:=cp.i0 ω;have hs:=cp.sz ω;have O:=cp.ow ω;have ow:=O.wl I.sh.g;have d0:=O.d0;simp only at hs ow;by_cases c21:S.col.pc = 21
 ·rw[if_pos c21];have j1:=cp.i1 (.inl c21);rw[BV ω ω];simp only[z_o];rw[CI ω ω];simp only[z_o];rw[c21] at cp;obtain⟨k1,k2⟩:=stay (S1:={ S with used:=true }) (g':=g) (col':={ S.col with word:=wv S.AA (S.col.src + S.col.i),pc:=22 }) rfl rfl rfl rfl B1 rfl h2 I.sh (Kp.refl _ _) rfl rfl rfl rfl (.inl ⟨rfl,Xe cp⟩);exact⟨_,g,rfl,k1,k2,h2,.inr rfl⟩
 rw[if_neg c21];by_cases c22:S.col.pc = 22
 ·rw[if_pos c22];have j1:=cp.i1 (.inr c22);rw[BV ω ω];simp only[z_o];rw[DE ω ω];simp only[z_o];rw[BV ω ω];simp only[z_o];rw[c22] at cp;obtain⟨H1,K,C'⟩:=Xh I.sh cp;obtain⟨k1,k2⟩:=stay (S1:={ S with used:=true,AA:=AT S.AA (S.col.dst + S.col.i) S.col.word }) (g':=g) (col':={ S.col with i:=S.col.i + 1,pc:=if S.col.i + 1 = S.col.size then 23 else 21 }) rfl rfl rfl rfl ⟨B.ev,B.old,B.cy,B.fu,B.st,B.pn⟩ rfl h2 H1 K rfl rfl rfl rfl (.inl ⟨rfl,C'⟩);exact⟨_,g,rfl,k1,k2,h2,.inr rfl⟩
 rw[if_neg c22];by_cases c23:S.col.pc = 23
 ·rw[if_pos c23];rw[DE ω ω];simp only[z_o];rw[c23] at cp;obtain⟨H1,K,C'⟩:=Y0 I.sh cp;obtain⟨k1,k2⟩:=stay (S1:={ S with used:=true,AA:=AT S.AA S.col.dst S.col.dst }) (g':=g) (col':={ S.col with pc:=24 }) rfl rfl rfl rfl ⟨B.ev,B.old,B.cy,B.fu,B.st,B.pn⟩ rfl h2 H1 K rfl rfl rfl rfl (.inl ⟨rfl,C'⟩);exact⟨_,g,rfl,k1,k2,h2,.inr rfl⟩
 rw[if_neg c23,if_pos ω];have c24:S.col.pc = 24:=ω
 rw[c24] at cp;rw[CI ω ω];simp only[z_o];by_cases hw:wv S.AA S.col.src = S.col.src
 ·rw[if_pos hw,DE (S:={ S with used:=true }) ω (by show _ < (S.AA.length:Int);omega)];simp only[z_o];obtain⟨H1,K,nf,_,hne⟩:=Xy I.sh cp hw;have inn:S.col.dst / 16 < S.A0.length:=O.inn;rw[Tr (S:={ S with used:=true,AA:=AT S.AA S.col.src S.col.dst }) ω inn ω ω];simp only[z_o];obtain⟨k1,k2⟩:=stay (S1:={ S with used:=true,AA:=AT S.AA S.col.src S.col.dst,A0:=AT S.A0 (S.col.dst / 16) { rv S.A0 (S.col.dst / 16) with top:=S.col.dst + S.col.size } }) (g':={ g with B:=λa=>g.B a∨a = S.col.dst,L:=λa=>g.L a∨a = S.col.dst }) (col':={ S.col with pc:=5 }) rfl rfl rfl rfl ⟨B.ev,B.old,B.cy,B.fu,B.st,B.pn⟩ rfl h2 H1 K rfl rfl rfl rfl (.inr ⟨rfl,by
   show wv (AT S.AA S.col.src S.col.dst) S.col.src≠S.col.src
   rw[Cb ω ω ω,if_pos rfl];exact hne⟩)
  exact⟨_,_,rfl,k1,k2,h2,.inr rfl⟩
 ·rw[if_neg hw];simp only[z_o];obtain⟨k1,k2⟩:=stay (S1:={ S with used:=true }) (g':=g) (col':={ S.col with pc:=5 }) rfl rfl rfl rfl B1 rfl h2 I.sh (Kp.refl _ _) rfl rfl rfl rfl (.inr ⟨rfl,hw⟩);exact⟨_,g,rfl,k1,k2,h2,.inr rfl⟩
end
end Sm
end
section
namespace Sm
variable {P:List (List Op)}
theorem N1 {S:Sim} (T:TOk S.A0):∀(n:Nat) (r p:Int),1≤r→r≤S.A0.length→16 * r≤p→S.A0.length - r < n→
  ∃r' p',S.renewTo n r p = some (r',p')∧1≤r'∧r'≤S.A0.length∧16 * r'≤p'∧((r' = r∧p' = p)∨p' = 16 * r')∧(r' < S.A0.length→(rv S.A0 r').kind≠4∧p' < 16 * r' + (rv S.A0 r').AO)∧(∀a:Int,p≤a→a < 16 * (a / 16) + (rv S.A0 (a / 16)).AO→(rv S.A0 (a / 16)).kind≠4→p'≤a):=by
 intro n;induction n with
 | zero=>intro r p _ _ _ h;omega
 | succ n ih=>
  intro r p r0 r1 p0 hn;have n1:=T.n1;unfold Sim.renewTo;by_cases c:r < S.A0.length
  ·have R:=T.row r r0 c;have R0:=R.t0;have R1:=R.t1;have R2:=R.l0;have R3:=R.l1;rw[if_pos c,DB ω c];simp only[Yn,z_o];rw[CO ω ω,BV ω ω];simp only[z_o];have skip:((rv S.A0 r).kind = 4∨16 * r + (rv S.A0 r).AO≤p)→∃r' p',S.renewTo n (r + 1) ((r + 1) * 16) = some (r',p')∧1≤r'∧r'≤S.A0.length∧16 * r'≤p'∧((r' = r∧p' = p)∨p' = 16 * r')∧(r' < S.A0.length→(rv S.A0 r').kind≠4∧p' < 16 * r' + (rv S.A0 r').AO)∧(∀a:Int,p≤a→a < 16 * (a / 16) + (rv S.A0 (a / 16)).AO→(rv S.A0 (a / 16)).kind≠4→p'≤a):=λhs=>by
    obtain⟨r',p',e,g1,g2,g3,g4,g5,g6⟩:=ih (r + 1) ((r + 1) * 16) ω ω ω ω;refine⟨r',p',e,g1,g2,g3,?_,g5,λa h1 h2 h3=>g6 a ?_ h2 h3⟩
    ·rcases g4 with ⟨h1,h2⟩ | h
     ·right;omega
     ·exact .inr h
    ·by_cases d:a / 16 = r
     ·rw[d] at h2 h3;rcases hs with h | h
      ·exact absurd h h3
      ·omega
     ·omega
   by_cases k4:(rv S.A0 r).kind = 4
   ·rw[if_pos k4];simp only[z_o,if_true];exact skip (.inl k4)
   ·rw[if_neg k4];simp only[z_o,z_d];by_cases hl:16 * r + (rv S.A0 r).AO≤p
    ·rw[if_pos hl];exact skip (.inr hl)
    ·rw[if_neg hl];exact⟨r,p,rfl,r0,r1,p0,.inl ⟨rfl,rfl⟩,λ_=>⟨k4,ω⟩,λ_ h _ _=>h⟩
  ·rw[if_neg c];exact⟨r,p,rfl,r0,r1,p0,.inl ⟨rfl,rfl⟩,λh=>absurd h c,λ_ h _ _=>h⟩
def Jk (x:Col):Col:={ x with i:=x.i + 1,pc:=if x.i + 1 = x.sh.refs then 6 else 7 }
theorem NI {x:X} {c:Col} (C:C3 x c) (h7:7≤c.pc) (hn:¬ BZ x.t (wv x.w (c.f + 2 + c.i))):C3 x (Jk c):=by
 obtain⟨f1,f2,f3,f4,f5,f6⟩:=C.f h7;have hpc:((Jk c).pc = 6∧c.i + 1 = c.sh.refs)∨((Jk c).pc = 7∧c.i + 1≠c.sh.refs):=by
  show ((if c.i + 1 = c.sh.refs then (6:Int) else 7) = 6∧_)∨((if c.i + 1 = c.sh.refs then (6:Int) else 7) = 7∧_);by_cases h:c.i + 1 = c.sh.refs
  ·rw[if_pos h];exact .inl ⟨rfl,h⟩
  ·rw[if_neg h];exact .inr ⟨rfl,h⟩
 refine⟨ω,C.r0,C.r1,C.p0,C.at_,λh=>?_,λh=>ω,λh=>ω,λh=>ω,λa j ha hna j0 j1 hf=>?_⟩
 ·refine⟨f1,f2,f3,by show 0≤c.i + 1;omega,by show c.i + 1 < c.sh.refs;omega,f6⟩
 ·rcases C.cl a j ha hna j0 j1 hf with h | ⟨h1,h2,h3⟩
  ·exact .inl h
  ·right;subst h2;have:j≠c.i:=λh=>by subst h;exact hn hf
   rw[f3] at hpc f5;refine⟨?_,rfl,by show c.i + 1≤j;omega⟩;omega
section
variable {c:Nat} {S:Sim} {g:Gh}
theorem N2 {x:Col} (h0:0≤x.i) (h1:x.i≤100):GL x = some (Jk x):=by
 unfold GL;simp only[Yn];rw[BV ω ω];rfl
theorem Us (I:IG P S g) (B:Bd c S) (h3:S.Ad = 3):∃S',S.renew = some S'∧IG P S' g∧Bd c S'∧S'.Ad = 3∧(S'.stop = true∨S'.used = true):=by
 have C:=I.c3 h3;have hwl:=I.wl;have cpc:=C.pc;have hl:(S.AA.length:Int) = 16 * S.A0.length:=I.sh.g.len;have hml:S.AK.length = S.AA.length:=I.sh.ml;have cr1:S.col.r≤S.A0.length:=C.r1;have B1:=B.usd true;have bs:S.col.AM.length + S.old.length + 5 * S.AK.countP (λb=>!b)≤3000 + c:=by have:=B.st;omega
 have fin:∀{S1:Sim} {col' : Col},S1.th = S.th→(S1.Aa,S1.c) = (S.Aa,S.c)→S1.stop = S.stop→S1.full = S.full→Bd c S1→S1.col = S.col→Sh (xof (S1.setC col') g)→Kp S.th.length (xof S g) (xof (S1.setC col') g)→col'.AM = S.col.AM→col'.want = S.col.want→C3 (xof (S1.setC col') g) col'→IG P (S1.setC col') g∧Bd c (S1.setC col'):=λ{S1 col'} e1 e2 e3 e4 B1 e5 H K q3 q4 hc=>by
  refine⟨I.cstep (g':=g) (S':=S1.setC col') e1 e2 H K (λh=>ω) (λh=>ω) (λ_=>hc) (λh h'=>?_),⟨B1.ev,B1.old,B1.cy,B1.fu,?_,B1.pn⟩⟩
  ·show Wt (xof (S1.setC col') g) col'.want;rw[q4];exact (I.wt (by rw[← e3];exact h) (by rw[← e4];exact h')).stable I.sh K
  ·have:=B1.st;have hp:=hc.pc;show col'.AM.length + S1.old.length + 5 * S1.AK.countP (λb=>!b) + (if col'.pc = 2 then _ else 0)≤3000 + c;rw[if_neg ω,q3,← e5];omega
 unfold Sim.renew;by_cases c6:S.col.pc = 6
 ·simp only[Yn];rw[if_pos c6];obtain⟨r,p,e,r0,r1,p0,hrp,hat,hno⟩:=N1 I.sh.g.ok (S.A0.length + 2) S.col.r S.col.p C.r0 cr1 C.p0 (by have:=C.r0;omega);rw[e];simp only[z_o];have cl0:∀a j,g.L a→¬ BZ S.A0 a→0≤j→j < (shp S.AA a).refs→BZ S.A0 (wv S.AA (a + 2 + j))→p≤a∧a < 16 * (a / 16) + (rv S.A0 (a / 16)).AO:=λa j ha hn j0 j1 hf=>by
   rcases C.cl a j ha hn j0 j1 hf with ⟨h1,h2⟩ | ⟨h1,_⟩
   ·have ha0:=I.in_ ha;exact⟨hno a h1 h2 λh=>hn ⟨ω,h⟩,h2⟩
   ·omega
  by_cases d:r = S.A0.length
  ·rw[if_pos d];refine⟨_,rfl,?_,⟨B.ev,B.old,B.cy,B.fu,?_,B.pn⟩,h3,.inl rfl⟩
   ·refine I.cstep (g':=g) (S':={ S with stop:=true,col:={ S.col with r:=r,p:=p,want:=0 } }) rfl rfl I.sh (Kp.refl _ _) (λh=>ω) (λh=>ω) (λ_=>⟨C.pc,r0,by show r≤S.A0.length;omega,p0,λh=>by have h:r < S.A0.length:=h;omega,λh=>by have h:7≤S.col.pc:=h;omega,λh=>by have h:8≤S.col.pc:=h;omega,λh=>by have h:S.col.pc = 9:=h;omega,λh=>by have h:8≤S.col.pc:=h;omega,λa j ha hn j0 j1 hf=>.inl (cl0 a j ha hn j0 j1 hf)⟩) (λ_ _=>.inr (.inr (.inr ⟨h3,rfl,λa j ha hn j0 j1 hf=>?_⟩)));have h1:=cl0 a j ha hn j0 j1 hf;have h2:=I.in_ ha;omega
   ·exact B.st
  ·rw[if_neg d];obtain⟨k4,pl⟩:=hat ω;have R:=I.sh.g.ok.row r r0 (by simp only;omega);have R1:=R.t1;have R3:=R.l1;simp only at R1 R3;have er:p / 16 = r:=ω
   have hB:g.B p:=by
    rcases hrp with ⟨h1,h2⟩ | h
    ·subst h1 h2;exact C.at_ (by simp only;omega) (by unfold lim;exact pl)
    ·rcases I.sh.g.bs r r0 (by simp only;omega) with h2 | h2
     ·simp only at h2;omega
     ·rw[h];exact h2
   obtain⟨a1,a2,a3,a4,a5,a6,a7,a8⟩:=I.sh.g.inn hB;simp only at a3 a4 a5 a6 a7 a8;have sb:=FP S.AA p;have hnF:¬ BZ S.A0 p:=λh=>k4 (by have:=h.2;rw[er] at this;exact this)
   rw[BV ω ω];simp only[z_o];rw[CI ω ω];simp only[z_o];have es:(AJ (wv S.AA (p + 1))).1 = shp S.AA p:=rfl;have esz:AF (shp S.AA p) = sz S.AA p:=rfl;rw[es,esz,BV ω ω];simp only[z_o];rw[DB ω ω];simp only[z_o];have at' : r < S.A0.length→p + sz S.AA p < 16 * r + (rv S.A0 r).AO→g.B (p + sz S.AA p):=λ_ hlt=>by
    rcases I.sh.g.nx p hB with h | h
    ·simp only at h;rw[er] at h;omega
    ·exact h
   have nxt:∀a,g.L a→p≤a→a≠p→p + sz S.AA p≤a:=λa ha h1 h2=>I.sh.g.dj p a hB (I.sh.lb a ha) ω
   have out:∀q:Int,(q = 7∧0 < (shp S.AA p).refs∧g.L p)∨(q = 6∧(∀j,g.L p→0≤j→j < (shp S.AA p).refs→False))→∃S',some (({ S with used:=true }:Sim).setC { S.col with r:=r,f:=p,sh:=shp S.AA p,p:=p + sz S.AA p,i:=0,pc:=q }) = some S'∧IG P S' g∧Bd c S'∧S'.Ad = 3∧(S'.stop = true∨S'.used = true):=λq hq=>by
    obtain⟨k1,k2⟩:=fin (S1:={ S with used:=true }) (col':={ S.col with r:=r,f:=p,sh:=shp S.AA p,p:=p + sz S.AA p,i:=0,pc:=q }) rfl rfl rfl rfl B1 rfl I.sh (Kp.refl _ _) rfl rfl ⟨by show 6≤q∧q≤9;omega,r0,r1,by show 16 * r≤p + sz S.AA p;omega,at',λh=>by
      rcases hq with ⟨_,h1,h2⟩ | ⟨h1,_⟩
      ·exact⟨h2,hnF,rfl,ZI 0,h1,by show p < p + sz S.AA p;omega⟩
      ·have h:7≤q:=h;omega,λh=>by have h:8≤q:=h;omega,λh=>by have h:q = 9:=h;omega,λh=>by have h:8≤q:=h;omega,λa j ha hn j0 j1 hf=>by
      obtain⟨h1,h2⟩:=cl0 a j ha hn j0 j1 hf
      by_cases d2:a = p
      ·rcases hq with ⟨h3,_⟩ | ⟨_,h3⟩
       ·exact .inr ⟨by show 7≤q;omega,d2,j0⟩
       ·subst d2;exact (h3 j ha j0 j1).elim
      ·exact .inl ⟨nxt a ha h1 d2,h2⟩⟩
    exact⟨_,rfl,k1,k2,h3,.inr rfl⟩
   by_cases hr:0 < (shp S.AA p).refs
   ·rw[if_pos hr];by_cases ht:(rv S.A0 r).BE≤p
    ·rw[if_pos ht];simp only[z_o,if_true];exact out 7 (.inl ⟨rfl,hr,I.sh.nb (by show 1≤S.Ad;omega) p hB (by show (rv S.A0 (p / 16)).BE≤p;rw[er];exact ht)⟩)
    ·rw[if_neg ht,Qe ω ω];simp only[z_o];cases hm:mv S.AK p with
     | true=>
      simp only[if_true];exact out 7 (.inl ⟨rfl,hr,(I.sh.mt p ω hm).1⟩)
     | false=>
      simp only[ZE,if_false];have:=out 6 (.inr ⟨rfl,λj hL _ _=>by
       have:mv S.AK p = true:=I.sh.lm (by show 2≤S.Ad;omega) p hL (by show p < (rv S.A0 (p / 16)).BE;rw[er];omega)
       rw[hm] at this;cases this⟩)
      rw[← c6] at this;exact this
   ·rw[if_neg hr];simp only[z_o,ZE,if_false];have:=out 6 (.inr ⟨rfl,λj _ j0 j1=>ω⟩);rw[← c6] at this;exact this
 simp only[Yn];rw[if_neg c6];obtain⟨f1,f2,f3,f4,f5,f6⟩:=C.f ω;obtain⟨a1,a2,a3,a4,a5,a6⟩:=I.in_ f1;have sb:=FP S.AA S.col.f;have f3:S.col.sh = shp S.AA S.col.f:=f3;have f5' : S.col.i < (shp S.AA S.col.f).refs:=by rw[← f3];exact f5
 have hrf:=I.sh.rf S.col.f S.col.i f1 f4 f5';by_cases c7:S.col.pc = 7
 ·rw[if_pos c7,BV ω ω];simp only[z_o];rw[BV ω ω];simp only[z_o];rw[CI ω ω];simp only[z_o];obtain⟨d,hd,hdf⟩:=(I.usd true).frm hrf;rw[hd];simp only[z_o];cases d with
  | true=>
   have hf:BZ S.A0 (wv S.AA (S.col.f + 2 + S.col.i)):=hdf.1 rfl;rw[if_pos rfl];obtain⟨k1,k2⟩:=fin (S1:={ S with used:=true }) (col':={ S.col with v:=wv S.AA (S.col.f + 2 + S.col.i),pc:=8 }) rfl rfl rfl rfl B1 rfl I.sh (Kp.refl _ _) rfl rfl ⟨⟨by show (6:Int)≤8;decide,by show (8:Int)≤9;decide⟩,C.r0,C.r1,C.p0,C.at_,λ_=>⟨f1,f2,f3,f4,f5,f6⟩,λ_=>⟨hrf (RO I.sh.g hf),hf⟩,λh=>absurd (show (8:Int) = 9 from h) δ,λ_ _=>rfl,λa j ha hn j0 j1 hff=>by
    rcases C.cl a j ha hn j0 j1 hff with h | ⟨_,h2,h3⟩
    ·exact .inl h
    ·exact .inr ⟨by show (7:Int)≤8;decide,h2,h3⟩⟩
   exact⟨_,rfl,k1,k2,h3,.inr rfl⟩
  | false=>
   rw[if_neg δ,N2 (by exact f4) (by show S.col.i≤100;omega)];simp only[z_o];have C' : C3 (xof S g) { S.col with v:=wv S.AA (S.col.f + 2 + S.col.i) }:=⟨C.pc,C.r0,C.r1,C.p0,C.at_,C.f,λh=>by have h:8≤S.col.pc:=h;omega,λh=>by have h:S.col.pc = 9:=h;omega,λh=>by have h:8≤S.col.pc:=h;omega,C.cl⟩;obtain⟨k1,k2⟩:=fin (S1:={ S with used:=true }) (col':=Jk { S.col with v:=wv S.AA (S.col.f + 2 + S.col.i) }) rfl rfl rfl rfl B1 rfl I.sh (Kp.refl _ _) rfl rfl (NI C' (by show 7≤S.col.pc;omega) λh=>by
    have:=hdf.2 h;cases this)
   exact⟨_,rfl,k1,k2,h3,.inr rfl⟩
 rw[if_neg c7];obtain⟨v1,v2⟩:=C.v ω;obtain⟨b1,b2,b3,b4,b5,b6⟩:=I.in_ v1;have hne:wv S.AA S.col.v≠S.col.v:=I.sh.af h3 _ v1 v2;by_cases c8:S.col.pc = 8
 ·rw[if_pos c8,CI ω ω];simp only[z_o];rw[if_neg hne];obtain⟨k1,k2⟩:=fin (S1:={ S with used:=true }) (col':={ S.col with word:=wv S.AA S.col.v,pc:=9 }) rfl rfl rfl rfl B1 rfl I.sh (Kp.refl _ _) rfl rfl ⟨⟨by show (6:Int)≤9;decide,by show (9:Int)≤9;decide⟩,C.r0,C.r1,C.p0,C.at_,λ_=>⟨f1,f2,f3,f4,f5,f6⟩,λ_=>⟨v1,v2⟩,λ_=>rfl,λ_=>C.u ω,λa j ha hn j0 j1 hff=>by
    rcases C.cl a j ha hn j0 j1 hff with h | ⟨_,h2,h3⟩
    ·exact .inl h
    ·exact .inr ⟨by show (7:Int)≤9;decide,h2,h3⟩⟩
  exact⟨_,rfl,k1,k2,h3,.inr rfl⟩
 rw[if_neg c8,if_pos ω,BV ω ω];have c9:S.col.pc = 9:=ω
 simp only[z_o];rw[BV ω ω];simp only[z_o];rw[CI ω ω];simp only[z_o];have hw:S.col.word = wv S.AA S.col.v:=C.w c9;by_cases hv:wv S.AA (S.col.f + 2 + S.col.i) = S.col.v
 ·rw[if_pos hv,DE (S:={ S with used:=true }) ω (by show _ < (S.AA.length:Int);omega)];simp only[z_o];rw[N2 (by exact f4) (by show S.col.i≤100;omega)];simp only[z_o];obtain⟨w1,w2,_⟩:g.L (wv S.AA S.col.v)∧¬ BZ S.A0 (wv S.AA S.col.v)∧_:=I.sh.fw _ (I.sh.lb _ v1) v2 hne;obtain⟨H1,K⟩:=ref (o:=S.th.length) (v:=S.col.word) I.sh f1 f2 f4 f5' (λ_=>by rw[hw];exact w1) (λh=>absurd h (by show S.Ad≠1;omega)) (λ_=>by rw[hw];exact w2);have C':=C.stable I.sh K (λ_ _=>rfl) h3;obtain⟨k1,k2⟩:=fin (S1:={ S with used:=true,AA:=AT S.AA (S.col.f + 2 + S.col.i) S.col.word }) (col':=Jk S.col) rfl rfl rfl rfl ⟨B.ev,B.old,B.cy,B.fu,B.st,B.pn⟩ rfl H1 K rfl rfl (NI C' ω λh=>by
   have h:BZ S.A0 (wv (AT S.AA (S.col.f + 2 + S.col.i) S.col.word) (S.col.f + 2 + S.col.i)):=h
   rw[Cb ω ω ω,if_pos rfl,hw] at h
   exact w2 h)
  exact⟨_,rfl,k1,k2,h3,.inr rfl⟩
 ·rw[if_neg hv];simp only[z_o];rw[N2 (by exact f4) (by show S.col.i≤100;omega)];simp only[z_o];obtain⟨k1,k2⟩:=fin (S1:={ S with used:=true }) (col':=Jk S.col) rfl rfl rfl rfl B1 rfl I.sh (Kp.refl _ _) rfl rfl (NI C ω λh=>hv (C.u ω h));exact⟨_,rfl,k1,k2,h3,.inr rfl⟩
theorem Uw (hc:c < 900000):∀(n:Nat) (S:Sim) (g:Gh),IG P S g→Bd c S→1≤S.Ad→0 < n→(S.used = true∨S.stop = true∨(S.Ad = 1∧mu S + 1 < n)∨(2≤S.Ad∧1 < n))→∃S' g',Sim.cloop n S = some S'∧IG P S' g'∧Bd c S':=by
 intro n;induction n with
 | zero=>intro S g _ _ _ h;omega
 | succ n ih=>
  intro S g I B h1 _ hr;unfold Sim.cloop;by_cases hs:S.used = true∨S.stop = true
  ·rw[if_neg (by simp;intro h;rcases hs with h2 | h2;simp[h2] at h;exact h2)];exact⟨S,g,rfl,I,B⟩
  ·have hu:S.used = false:=by cases h:S.used;rfl;exact absurd (.inl h) hs
   have hst:S.stop = false:=by cases h:S.stop;rfl;exact absurd (.inr h) hs
   rw[hu,hst];simp only[Bool.not_false,Bool.and_self,if_true,Yn];have hp:S.Ad≤3:=I.sh.ph.2;have hr:(S.Ad = 1∧mu S + 1 < n + 1)∨(2≤S.Ad∧1 < n + 1):=by
    rcases hr with h | h | h
    ·exact absurd (.inl h) hs
    ·exact absurd (.inr h) hs
    ·exact h
   unfold Sim.work;by_cases p1:S.Ad = 1
   ·have C:=I.c1 p1;by_cases c1:S.col.pc = 1
    ·rw[if_pos ⟨p1,c1⟩];obtain⟨S',e,I',B',p',_,_,h⟩:=Qt hc I B p1 c1;rw[e];simp only[z_o];refine ih S' g I' B' ω ω ?_;rcases h with h | h
     ·exact .inr (.inl h.1)
     ·exact .inr (.inr (.inl ⟨p',ω⟩))
    ·rw[if_neg (λh=>c1 h.2),if_pos p1];have c2:S.col.pc = 2:=by rcases C.pc with h | h;exact absurd h c1;exact h
     obtain⟨S',e,I',B',p',_,_,hus,_⟩:=Qp hc I B p1 c2;rw[e];simp only[z_o];exact ih S' g I' B' ω ω (.inl hus)
   ·rw[if_neg (λh=>p1 h.1),if_neg p1];have fin:∀{S' : Sim} {g'},IG P S' g'→Bd c S'→(S'.Ad = 2∨S'.Ad = 3)→(S'.stop = true∨S'.used = true)→∃S2 g2,Sim.cloop n S' = some S2∧IG P S2 g2∧Bd c S2:=λ{S' g'} I' B' p' h=>ih S' g' I' B' ω ω (by
     rcases h with h | h
     ·exact .inr (.inl h)
     ·exact .inl h)
    by_cases p2:S.Ad = 2
    ·by_cases c5:S.col.pc = 5
     ·rw[if_pos ⟨p2,c5⟩];obtain⟨S',e,I',B',p',h⟩:=V5 I B p2 c5;rw[e];simp only[z_o];exact fin I' B' (.inl p') h
     ·rw[if_neg (λh=>c5 h.2),if_pos p2];obtain⟨S',g',e,I',B',p',h⟩:=Ts I B p2 c5;rw[e];simp only[z_o];exact fin I' B' (.inl p') h
    ·rw[if_neg (λh=>p2 h.1),if_neg p2];obtain⟨S',e,I',B',p',h⟩:=Us I B ω;rw[e];simp only[z_o];exact fin I' B' (.inr p') h
theorem T7 (hc:c < 900000):∀(n:Nat) (S:Sim) (g:Gh),IG P S g→Bd c S→S.Ad = 1→mu S < n→∃S',Sim.drain n S = some S'∧IG P S' g∧Bd c S'∧S'.Ad = 1∧(S'.AG = S.AG∧S'.th = S.th)∧S'.full = S.full∧S'.stop = S.stop∧S'.col.want = S.col.want∧S'.col.AM = []∧S'.old = []∧S'.col.pc = 1:=by
 intro n;induction n with
 | zero=>intro S g _ _ _ h;omega
 | succ n ih=>
  intro S g I B h1 hn;have hz:=I.szok rfl B hc;have C:=I.c1 h1;unfold Sim.drain;rw[hz,if_neg δ];by_cases hs:0 < S.col.AM.length∨0 < S.old.length∨S.col.pc = 2
  ·rw[if_pos hs];simp only[Yn];by_cases c2:S.col.pc = 2
   ·rw[if_pos c2];obtain⟨S',e,I',B',p',q1,q2,_,hm,q3,q4⟩:=Qp hc I B h1 c2;rw[e];simp only[z_o];obtain⟨S2,e2,g1,g2,g3,g4,g5,g6,g7,g8⟩:=ih S' g I' B' p' ω;exact⟨S2,e2,g1,g2,g3,⟨by rw[g4.1,q1.1],by rw[g4.2,q1.2]⟩,by rw[g5,q2],by rw[g6,q3],by rw[g7,q4],g8⟩
   ·rw[if_neg c2];have c1:S.col.pc = 1:=by rcases C.pc with h | h;exact h;exact absurd h c2
    obtain⟨S',e,I',B',p',q1,q2,h⟩:=Qt hc I B h1 c1;rw[e];simp only[z_o];rcases h with ⟨_,h2,h3⟩ | ⟨hm,q3,q4⟩
    ·exfalso;rw[h2,h3] at hs;simp at hs;exact c2 hs
    ·obtain⟨S2,e2,g1,g2,g3,g4,g5,g6,g7,g8⟩:=ih S' g I' B' p' ω;exact⟨S2,e2,g1,g2,g3,⟨by rw[g4.1,q1.1],by rw[g4.2,q1.2]⟩,by rw[g5,q2],by rw[g6,q3],by rw[g7,q4],g8⟩
  ·rw[if_neg hs];have hs':=hs;rw[not_or,not_or] at hs';refine⟨S,rfl,I,B,h1,⟨rfl,rfl⟩,rfl,rfl,rfl,?_,?_,?_⟩
   ·exact ZL.1 ω
   ·exact ZL.1 ω
   ·rcases C.pc with h | h
    ·exact h
    ·exact absurd h hs'.2.2
end
end Sm
end
