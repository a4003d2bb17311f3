/- A part of the proof of the given row: the walk of the law and of all that it calls. Conditions: none. -/
import Derived.Test.YtlagojobcbkpdaaGreatCC
set_option linter.unusedVariables false
set_option linter.unusedSimpArgs false
section
namespace Go.Lf
open Go Go.Proofs Go.Proofs.Tryz
def Pa (a0:Value) (K:Value→M):M:=
 AL 183 a0 λa=>CUT [1,6,9] (λb=>zL 0 a λc=>BO .geq c (I 1) λc=>GT c true (zL 0 a λd=>BO .leq d (I 11) λd=>b [a,c,d]) (b [a,c,U])) λa=>CUT [11,19] (λb=>zA (a 6) (a 9) λc=>GT c true (zL 0 (a 1) λd=>BO .neq d (I 1) λd=>GT d false (FO 6 (a 1) λa=>LA 2 a λa=>CA P 110 [a] λa=>zP d a λa=>b [c,a]) (zP d U λa=>b [c,a])) (b [c,U])) λa=>zA (a 11) (a 19) λa=>K a
theorem V9 {a0:Value}:zG Om [a0] (Pa a0):=zG.mk { rg:=[(1,[(7,[1,6,9]),(10,[11,19])])] } func233 (by kernel_rfl) λ_=>by kernel_rfl
def JR (a0 a1 a2 a3:Value) (K:Value→M):M:=
 zM 17 a0 λa=>IA 17 a a1 λa=>LA 17 a λa=>AL 187 ET λb=>ST 17 b a<|zN 33 a0 λa=>L1 a λc=>zL 1 b λd=>BD (cl XH) [(0,1,a1),(1,1,d),(2,1,a2),(3,1,a3)] λd=>BS 142 1 (ZR 1 XH) [(0,4,d)] λd=>AND (L1 a λa=>EV a c)<|AP 142 4 32 (cl XH) c d λa=>NC a0 λc=>zS 33 c a<|zM 17 a0 λa=>zL 0 b λc=>zL 1 b λb=>BO .add b (I 1) λb=>BD (cl ET) [(0,1,c),(1,1,b)] λb=>IA 17 a a1 λa=>ST 17 a b<|K (.tuple #[])
theorem PB {a0 a1 a2 a3:Value}:zG JT [a0,a1,a2,a3] (JR a0 a1 a2 a3):=zG.mk {} func234 (by kernel_rfl) λ_=>by kernel_rfl
def Jy (a0 a1 a2:Value) (K:Value→M):M:=
 AL 183 a0 λa=>LN a1 λb=>CUT [1,2,3,7,16,20] (λc=>zL 1 a λd=>BO .geq d (I 0) λd=>GT d true (zL 1 a λe=>BO .lss e b λe=>c [a1,a2,a,b,d,e]) (c [a1,a2,a,b,d,U])) λa=>zA (a 16) (a 20) λb=>CUT [1,2,3,7,8,25,29] (λc=>zL 2 (a 3) λd=>BO .geq d (I 0) λd=>GT d true (zL 2 (a 3) λe=>BO .lss e (a 7) λe=>c [(a 1),(a 2),(a 3),(a 7),b,d,e]) (c [(a 1),(a 2),(a 3),(a 7),b,d,U])) λa=>zA (a 25) (a 29) λb=>CUT [1,2,3,7,8,9,34,38] (λc=>zL 3 (a 3) λd=>BO .geq d (I 0) λd=>GT d true (zL 3 (a 3) λe=>BO .lss e (a 7) λe=>c [(a 1),(a 2),(a 3),(a 7),(a 8),b,d,e]) (c [(a 1),(a 2),(a 3),(a 7),(a 8),b,d,U])) λa=>zA (a 34) (a 38) λb=>CUT [1,2,3,7,8,9,10] (λc=>zL 0 (a 3) λd=>CUT [1,2,3,7,8,9,10] (λc=>BO .eql d (I 1) λe=>IF e (c [(a 1),(a 2),(a 3),(a 7),(.bool true),(.bool true),(.bool true)]) (BO .eql d (I 8) λe=>IF e (BO .gtr (a 7) (I 0) λb=>c [(a 1),(a 2),(a 3),(a 7),b,(.bool true),(.bool true)]) (CUT [1,2,3,7,8,9,10,41,48] (λc=>BO .eql d (I 2) λe=>IF e (c [(a 1),(a 2),(a 3),(a 7),(a 8),(a 9),b,d,e]) (BO .eql d (I 4) λe=>IF e (c [(a 1),(a 2),(a 3),(a 7),(a 8),(a 9),b,d,e]) (BO .eql d (I 5) λe=>IF e (c [(a 1),(a 2),(a 3),(a 7),(a 8),(a 9),b,d,e]) (BO .eql d (I 9) λe=>IF e (c [(a 1),(a 2),(a 3),(a 7),(a 8),(a 9),b,d,e]) (BO .eql d (I 10) λe=>IF e (c [(a 1),(a 2),(a 3),(a 7),(a 8),(a 9),b,d,e]) (BO .eql d (I 11) λe=>c [(a 1),(a 2),(a 3),(a 7),(a 8),(a 9),b,d,e])))))) λa=>IF (a 48) (c [(a 1),(a 2),(a 3),(a 7),(a 8),(.bool true),(.bool true)]) (CUT [1,2,3,7,8,9,10,55] (λb=>BO .eql (a 41) (I 3) λc=>IF c (b [(a 1),(a 2),(a 3),(a 7),(a 8),(a 9),(a 10),c]) (BO .eql (a 41) (I 6) λc=>b [(a 1),(a 2),(a 3),(a 7),(a 8),(a 9),(a 10),c])) λa=>IF (a 55) (c [(a 1),(a 2),(a 3),(a 7),(a 8),(a 9),(.bool true)]) (c [(a 1),(a 2),(a 3),(a 7),(a 8),(a 9),(a 10)]))))) λa=>c [(a 1),(a 2),(a 3),(a 7),(a 8),(a 9),(a 10)]) λa=>CUT [1,2,3,7,10,60,62] (λb=>NT (a 8) λc=>GT c false (NT (a 9) λd=>b [(a 1),(a 2),(a 3),(a 7),(a 10),c,d]) (b [(a 1),(a 2),(a 3),(a 7),(a 10),c,U])) λa=>CUT [1,2,3,7,64,66] (λb=>zP (a 60) (a 62) λc=>GT c false (NT (a 10) λd=>b [(a 1),(a 2),(a 3),(a 7),c,d]) (b [(a 1),(a 2),(a 3),(a 7),c,U])) λa=>zP (a 64) (a 66) λb=>IF b (K (I 2)) (CUT [1,2,3,7,71,74] (λb=>zL 0 (a 3) λc=>CA P 289 [c] λc=>GT c false (zL 0 (a 3) λd=>BO .eql d (I 10) λd=>b [(a 1),(a 2),(a 3),(a 7),c,d]) (b [(a 1),(a 2),(a 3),(a 7),c,U])) λa=>CUT [1,2,3,7,76,79] (λb=>zP (a 71) (a 74) λc=>GT c false (zL 0 (a 3) λd=>BO .eql d (I 11) λd=>b [(a 1),(a 2),(a 3),(a 7),c,d]) (b [(a 1),(a 2),(a 3),(a 7),c,U])) λa=>CUT [3,7,81,88] (λb=>zP (a 76) (a 79) λc=>GT c true (zL 1 (a 3) λd=>zI 1 (a 1) d λd=>BO .eql d (a 2) λd=>b [(a 3),(a 7),c,d]) (b [(a 3),(a 7),c,U])) λa=>zA (a 81) (a 88) λb=>IF b (K (I 3)) (CUT [3,7,93,96] (λb=>zL 0 (a 3) λc=>BO .eql c (I 1) λc=>GT c false (zL 0 (a 3) λd=>BO .eql d (I 2) λd=>b [(a 3),(a 7),c,d]) (b [(a 3),(a 7),c,U])) λa=>CUT [7,98,101] (λb=>zP (a 93) (a 96) λc=>GT c false (zL 0 (a 3) λd=>BO .eql d (I 9) λd=>b [(a 7),c,d]) (b [(a 7),c,U])) λa=>CUT [103,105] (λb=>zP (a 98) (a 101) λc=>GT c true (BO .eql (a 7) (I 8) λa=>b [c,a]) (b [c,U])) λa=>zA (a 103) (a 105) λa=>IF a (K (I 5)) (K (I 0))))
theorem OS {a0 a1 a2:Value}:zG JZ [a0,a1,a2] (Jy a0 a1 a2):=zG.mk { at_:=[(5,[1,2,3,7,8,9,10]),(7,[1,2,3,7,8,9,10]),(14,[1,2,3,7,8,9,10,41,48]),(21,[1,2,3,7,8,9,10,55])],rg:=[(2,[(8,[1,2,3,7,16,20])]),(3,[(8,[1,2,3,7,8,25,29])]),(4,[(8,[1,2,3,7,8,9,34,38])]),(25,[(5,[1,2,3,7,10,60,62]),(4,[1,2,3,7,64,66])]),(27,[(7,[1,2,3,7,71,74]),(5,[1,2,3,7,76,79]),(9,[3,7,81,88])]),(29,[(7,[3,7,93,96]),(5,[7,98,101]),(4,[103,105])])] } func235 (by kernel_rfl) λ_=>by kernel_rfl
def LG (a0 a1 a2:Value) (K:Value→M):M:=
 zM 17 a0 λa=>IA 17 a a1 λa=>LA 17 a λa=>AL 187 ET λb=>ST 17 b a<|zL 0 b λa=>CA P 98 [a] λa=>BS 3 1 (ZR 1 z3) [(0,1,a2)] λc=>AP 3 1 8 (cl z3) a c λa=>zS 0 b a<|zM 17 a0 λa=>LA 17 b λb=>IA 17 a a1 λa=>ST 17 a b<|CA P 234 [a0,a1,(I 0),(I 0)] λa=>K (.tuple #[])
theorem QO {a0 a1 a2:Value}:zG LW [a0,a1,a2] (LG a0 a1 a2):=zG.mk {} func236 (by kernel_rfl) λ_=>by kernel_rfl
def M3 (a0 a1:Value) (K:Value→M):M:=
 AL 187 a0 λa=>BO .eql a1 (I 1) λb=>IF b (zL 4 a λa=>K a) (BO .eql a1 (I 2) λb=>IF b (zL 5 a λa=>K a) (BO .eql a1 (I 3) λb=>IF b (zL 6 a λa=>K a) (zL 8 a λa=>K a)))
theorem Qp {a0 a1:Value}:zG Ls [a0,a1] (M3 a0 a1):=zG.mk {} func237 (by kernel_rfl) λ_=>by kernel_rfl
def Lp (a0 a1:Value) (K:Value→M):M:=
 CUT [4] (λa=>CUT [7,11,12,13] (λa=>BO .neq a1 (I 0) λb=>GT b true (zN 4 a0 λc=>FO 1 c λc=>L1 c λd=>a [b,c,d,a1]) (a [b,U,U,U])) λb=>GT (b 7) true (CA P 54 [(b 13)] λc=>IA 5 (b 12) c λc=>zL 0 c λc=>BO .eql c (I 4) λc=>zA (b 7) c λc=>AND (L1 (b 11) λa=>EV a (b 12))<|a [c]) (zA (b 7) U λc=>AND (EV U (b 12))<|a [c])) λa=>K (a 4)
theorem RX {a0 a1:Value}:zG HC [a0,a1] (Lp a0 a1):=zG.mk { at_:=[(1,[4])],dr:=[(1,[(0,[(9,[7,11,12,13])])])] } func238 (by kernel_rfl) λ_=>by kernel_rfl
def KW (a0:Value) (K:Value→M):M:=
 BO .eql a0 (I 11) λa=>IF a (K (I 12)) (BO .eql a0 (I 15) λa=>IF a (K (I 16)) (BO .add a0 (I 1) λa=>K a))
theorem Q6 {a0:Value}:zG Kv [a0] (KW a0):=zG.mk {} func239 (by kernel_rfl) λ_=>by kernel_rfl
def MB (a0 a1:Value) (K:Value→M):M:=
 NC a0 λa=>zS 34 a (.bool true)<|zN 4 a0 λa=>zL 0 a λa=>zI 1 a a1 λa=>K a
theorem QJ {a0 a1:Value}:zG La [a0,a1] (MB a0 a1):=zG.mk {} func240 (by kernel_rfl) λ_=>by kernel_rfl
def Lz (a0 a1 a2:Value) (K:Value→M):M:=
 AL 187 a0 λa=>AL 187 ET λb=>CUT [1,3,6] (λc=>CUT [1,3,6] (λc=>BO .eql a1 (I 1) λd=>IF d (zS 4 a a2<|c [a1,a,b]) (BO .eql a1 (I 2) λd=>IF d (zS 5 a a2<|c [a1,a,b]) (BO .eql a1 (I 3) λd=>IF d (zS 6 a a2<|c [a1,a,b]) (zS 8 a a2<|c [a1,a,b])))) λa=>c [(a 1),(a 3),(a 6)]) λa=>CA P 239 [(a 1)] λb=>zS 3 (a 3) b<|LA 17 (a 3) λb=>ST 17 (a 6) b<|LA 17 (a 6) λa=>K a
theorem Qb {a0 a1 a2:Value}:zG Kj [a0,a1,a2] (Lz a0 a1 a2):=zG.mk { at_:=[(1,[1,3,6]),(3,[1,3,6])] } func241 (by kernel_rfl) λ_=>by kernel_rfl
def N6 (a0:Value) (K:Value→M):M:=
 IF a0 (K (I 1)) (K (I 0))
theorem TC {a0:Value}:zG ND [a0] (N6 a0):=zG.mk {} func242 (by kernel_rfl) λ_=>by kernel_rfl
def Kl (a0 a1 a2:Value) (K:Value→M):M:=
 BO .eql a1 (I 10) λa=>IF a (LN a0 λa=>BO .eql a (I 8) λa=>IF a (K (.tuple #[(.slice none 0 0),(.bool false)])) (CA P 98 [a0] λa=>BS 3 1 (ZR 1 z3) [(0,1,a2)] λb=>AP 3 1 8 (cl z3) a b λa=>K (.tuple #[a,(.bool true)]))) (CUT [0,8] (λa=>CUT [0,8] (λa=>LP [0,2,8,9] (λb c=>LN (c 0) λd=>BO .lss (c 9) d λd=>IF d (CUT [0,2,8,9] (λa=>CUT [0,2,8,9] (λa=>zI 1 (c 0) (c 9) λb=>BO .eql b (c 2) λb=>IF b (a [(c 0),(c 2),(c 9),(c 9)]) (a [(c 0),(c 2),(c 8),(c 9)])) λb=>a [(b 0),(b 2),(b 8),(b 9)]) λa=>BO .add (a 9) (I 1) λc=>b [(a 0),(a 2),(a 8),c]) (a [(c 0),(c 8)])) [a0,a2,(I (-1)),(I 0)]) λb=>a [(b 0),(b 8)]) λa=>BO .lss (a 8) (I 0) λb=>IF b (K (.tuple #[(.slice none 0 0),(.bool false)])) (SL 1 (a 0) none (some (a 8)) λb=>BO .add (a 8) (I 1) λc=>SL 1 (a 0) (some c) none λa=>CA P 98 [b] λb=>AP 3 1 8 (cl z3) b a λa=>K (.tuple #[a,(.bool true)])))
theorem Qg {a0 a1 a2:Value}:zG MU [a0,a1,a2] (Kl a0 a1 a2):=zG.mk { at_:=[(8,[0,8]),(10,[0,8]),(11,[0,2,8,9]),(14,[0,2,8,9]),(15,[0,2,8,9])] } func243 (by kernel_rfl) λ_=>by kernel_rfl
def Jk (a0 a1 a2:Value) (K:Value→M):M:=
 AL 183 a0 λa=>CUT [1,2,3,10,13] (λb=>zL 0 a λc=>BO .eql c (I 4) λc=>GT c false (zL 0 a λd=>BO .eql d (I 5) λd=>b [a1,a2,a,c,d]) (b [a1,a2,a,c,U])) λa=>zP (a 10) (a 13) λb=>IF b (CUT [18,22] (λb=>zL 4 (a 3) λc=>BO .geq c (I 0) λc=>GT c true (zL 4 (a 3) λd=>BO .lss d (a 2) λa=>b [c,a]) (b [c,U])) λa=>zA (a 18) (a 22) λa=>K a) (CUT [27,31] (λb=>zL 4 (a 3) λc=>BO .geq c (I 0) λc=>GT c true (zL 4 (a 3) λd=>BO .lss d (a 1) λa=>b [c,a]) (b [c,U])) λa=>zA (a 27) (a 31) λa=>K a)
theorem Ox {a0 a1 a2:Value}:zG JW [a0,a1,a2] (Jk a0 a1 a2):=zG.mk { rg:=[(1,[(7,[1,2,3,10,13])]),(2,[(8,[18,22])]),(3,[(8,[27,31])])] } func244 (by kernel_rfl) λ_=>by kernel_rfl
def Gj (a0 a1 a2:Value) (K:Value→M):M:=
 CUT [0,1,2,17,19] (λa=>CA P 82 [a0] λb=>NT b λb=>GT b false (BO .lss a1 (I 0) λc=>a [a0,a1,a2,b,c]) (a [a0,a1,a2,b,U])) λa=>CUT [0,1,2,21,23] (λb=>zP (a 17) (a 19) λc=>GT c false (BO .gtr (a 1) (I 3) λd=>b [(a 0),(a 1),(a 2),c,d]) (b [(a 0),(a 1),(a 2),c,U])) λa=>CUT [0,1,2,25,27] (λb=>zP (a 21) (a 23) λc=>GT c false (BO .lss (a 2) (I 1) λd=>b [(a 0),(a 1),(a 2),c,d]) (b [(a 0),(a 1),(a 2),c,U])) λa=>CUT [0,1,2,29,31] (λb=>zP (a 25) (a 27) λc=>GT c false (BO .gtr (a 2) (I 16) λd=>b [(a 0),(a 1),(a 2),c,d]) (b [(a 0),(a 1),(a 2),c,U])) λa=>zP (a 29) (a 31) λb=>IF b (K (.tuple #[(.slice none 0 0),(I 0),(.bool false)])) (CA P 290 [(a 0),(a 1)] λb=>CUT [0,1,9,50] (λc=>CUT [0,1,9,38,42,43,45,46] (λc=>BO .geq b (I 0) λd=>GT d true (IA 5 (a 0) b λe=>FO 2 e λe=>L1 e λf=>BO .add f (a 2) λg=>c [(a 0),(a 1),b,d,e,f,g,b]) (c [(a 0),(a 1),b,d,U,U,U,U])) λa=>GT (a 38) true (CA P 80 [(a 46)] λb=>BO .add b (I 16) λb=>BO .leq (a 45) b λb=>zA (a 38) b λb=>AND (L1 (a 42) λb=>EV b (a 43))<|c [(a 0),(a 1),(a 9),b]) (zA (a 38) U λb=>AND (EV U (a 43))<|c [(a 0),(a 1),(a 9),b])) λa=>IF (a 50) (IA 5 (a 0) (a 9) λb=>FO 2 b λb=>L1 b λc=>CA P 291 [(a 0)] λa=>AND (L1 b λa=>EV a c)<|AND (L1 b λa=>EV a c)<|K (.tuple #[a,c,(.bool true)])) (CA P 291 [(a 0)] λb=>CUT [1,10] (λc=>BO .geq (a 9) (I 0) λd=>IF d (CA P 292 [(a 0),(a 9)] λb=>EX 0 b λd=>EX 1 b λb=>c [(a 1),d]) (c [(a 1),b])) λa=>CA P 293 [(a 10),(a 1)] λa=>EX 0 a λb=>EX 1 a λc=>EX 2 a λa=>NT a λa=>IF a (K (.tuple #[(.slice none 0 0),(I 0),(.bool false)])) (CA P 80 [c] λa=>K (.tuple #[b,a,(.bool true)]))))
theorem Mc {a0 a1 a2:Value}:zG H9 [a0,a1,a2] (Gj a0 a1 a2):=zG.mk { at_:=[(6,[0,1,9,50]),(9,[1,10])],rg:=[(1,[(6,[0,1,2,17,19]),(4,[0,1,2,21,23]),(4,[0,1,2,25,27]),(4,[0,1,2,29,31])])],dr:=[(4,[(0,[(11,[0,1,9,38,42,43,45,46])])])] } func245 (by kernel_rfl) λ_=>by kernel_rfl
def LB (a0 a1:Value) (K:Value→M):M:=
 zM 17 a0 λa=>IA 17 a a1 λa=>LA 17 a λa=>AL 187 ET λb=>ST 17 b a<|zM 17 a0 λa=>zL 0 b λc=>zL 1 b λb=>BD (cl ET) [(0,1,c),(1,1,b),(2,1,(I 1))] λb=>IA 17 a a1 λa=>ST 17 a b<|zN 4 a0 λa=>zS 5 a (.bool true)<|zN 4 a0 λa=>zS 4 a (.bool true)<|K (.tuple #[])
theorem Qs {a0 a1:Value}:zG MN [a0,a1] (LB a0 a1):=zG.mk {} func246 (by kernel_rfl) λ_=>by kernel_rfl
def Jo (a0 a1 a2:Value) (K:Value→M):M:=
 NC a0 λa=>zS 34 a (.bool true)<|zN 4 a0 λa=>zL 0 a λa=>IA 1 a a1 λa=>ST 1 a a2<|K (.tuple #[])
theorem Pb {a0 a1 a2:Value}:zG J6 [a0,a1,a2] (Jo a0 a1 a2):=zG.mk {} func247 (by kernel_rfl) λ_=>by kernel_rfl
def N2 (a0 a1 a2:Value) (K:Value→M):M:=
 CA P 54 [a1] λa=>zN 4 a0 λb=>zL 1 b λb=>IA 5 b a λb=>LA 5 b λb=>AL 66 z66 λc=>ST 5 c b<|BO .add a1 a2 λb=>zS 2 c b<|zN 4 a0 λb=>zL 1 b λb=>LA 5 c λc=>IA 5 b a λa=>ST 5 a c<|K (.tuple #[])
theorem TS {a0 a1 a2:Value}:zG NI [a0,a1,a2] (N2 a0 a1 a2):=zG.mk {} func248 (by kernel_rfl) λ_=>by kernel_rfl
def Lx (a0 a1 a2:Value) (K:Value→M):M:=
 zM 17 a0 λa=>IA 17 a a1 λa=>LA 17 a λa=>AL 187 ET λb=>ST 17 b a<|CUT [0,1,2,6,17,21] (λa=>zL 3 b λc=>BO .eql c (I 12) λc=>GT c true (zL 7 b λd=>BO .eql a2 d λd=>a [a0,a1,a2,b,c,d]) (a [a0,a1,a2,b,c,U])) λa=>zA (a 17) (a 21) λb=>IF b (zL 8 (a 6) λb=>CA P 236 [(a 0),(a 1),b] λa=>K (.tuple #[])) (CA P 238 [(a 0),(a 2)] λb=>NT b λb=>IF b (CA P 236 [(a 0),(a 1),(a 2)] λa=>K (.tuple #[])) (zS 7 (a 6) (a 2)<|zS 8 (a 6) (a 2)<|zS 3 (a 6) (I 11)<|zM 17 (a 0) λb=>LA 17 (a 6) λc=>IA 17 b (a 1) λa=>ST 17 a c<|K (.tuple #[])))
theorem RD {a0 a1 a2:Value}:zG Km [a0,a1,a2] (Lx a0 a1 a2):=zG.mk { rg:=[(1,[(8,[0,1,2,6,17,21])])] } func249 (by kernel_rfl) λ_=>by kernel_rfl
def NU (a0 a1:Value) (K:Value→M):M:=
 CUT [0,1,10,12] (λa=>zN 4 a0 λb=>zL 3 b λb=>BO .eql b (I 1) λb=>GT b true (BO .neq a1 (I 0) λc=>a [a0,a1,b,c]) (a [a0,a1,b,U])) λa=>zA (a 10) (a 12) λb=>IF b (zN 4 (a 0) λb=>zL 9 b λb=>CA P 98 [b] λb=>BS 3 1 (ZR 1 z3) [(0,1,(a 1))] λc=>AP 3 1 8 (cl z3) b c λb=>zN 4 (a 0) λa=>zS 9 a b<|K (.tuple #[])) (K (.tuple #[]))
theorem Sl {a0 a1:Value}:zG NN [a0,a1] (NU a0 a1):=zG.mk { rg:=[(0,[(9,[0,1,10,12])])] } func250 (by kernel_rfl) λ_=>by kernel_rfl
def MH (a0 a1 a2:Value) (K:Value→M):M:=
 zM 17 a0 λa=>IA 17 a a1 λa=>LA 17 a λa=>AL 187 ET λb=>ST 17 b a<|CUT [0,1,2,6,17,21] (λa=>zL 3 b λc=>BO .eql c (I 16) λc=>GT c true (zL 7 b λd=>BO .eql a2 d λd=>a [a0,a1,a2,b,c,d]) (a [a0,a1,a2,b,c,U])) λa=>zA (a 17) (a 21) λb=>IF b (CA P 234 [(a 0),(a 1),(I 0),(I 0)] λa=>K (.tuple #[])) (zS 7 (a 6) (a 2)<|CA P 238 [(a 0),(a 2)] λb=>IF b (zS 8 (a 6) (a 2)<|zS 3 (a 6) (I 15)<|zM 17 (a 0) λb=>LA 17 (a 6) λc=>IA 17 b (a 1) λa=>ST 17 a c<|K (.tuple #[])) (zL 5 (a 6) λb=>BO .neq (a 2) b λb=>IF b (CA P 234 [(a 0),(a 1),(I 0),(I 0)] λa=>K (.tuple #[])) (CA P 250 [(a 0),(a 2)] λb=>zS 3 (a 6) (I 14)<|zM 17 (a 0) λb=>LA 17 (a 6) λc=>IA 17 b (a 1) λa=>ST 17 a c<|K (.tuple #[]))))
theorem RY {a0 a1 a2:Value}:zG Lr [a0,a1,a2] (MH a0 a1 a2):=zG.mk { rg:=[(1,[(8,[0,1,2,6,17,21])])] } func251 (by kernel_rfl) λ_=>by kernel_rfl
def Ft (a0:Value) (K:Value→M):M:=
 CA P 294 [a0] λa=>zN 4 a0 λa=>zS 9 a (.slice none 0 0)<|zN 4 a0 λa=>zS 3 a (I 1)<|zN 18 a0 λa=>FO 1 a λa=>L1 a λb=>zN 18 a0 λc=>FO 2 c λc=>L1 c λd=>BD (cl HJ) [(0,1,(I 1)),(1,1,b),(2,1,d)] λe=>AL 165 HJ λf=>AND (L1 a λa=>EV a b)<|AND (L1 c λa=>EV a d)<|ST 15 f e<|CUT [0,2] (λa=>CUT [0,2] (λa=>LP [0,2,3] (λb c=>zM 17 (c 0) λd=>LN d λd=>BO .lss (c 3) d λd=>IF d (CUT [0,2,3] (λa=>CUT [0,2,3] (λa=>CUT [0,2,3] (λa=>LP [0,2,3,4] (λb c=>zM 17 (c 0) λd=>IA 17 d (c 3) λd=>zL 0 d λd=>LN d λd=>BO .lss (c 4) d λd=>IF d (CUT [0,2,3,4] (λa=>CUT [0,2,3,4] (λa=>zM 17 (c 0) λb=>IA 17 b (c 3) λb=>zL 0 b λb=>zI 1 b (c 4) λb=>BO .neq b (I 0) λb=>IF b (FO 3 (c 2) λb=>L1 b λd=>zM 17 (c 0) λe=>IA 17 e (c 3) λe=>zL 0 e λe=>zI 1 e (c 4) λe=>BS 3 1 (ZR 1 z3) [(0,1,e)] λe=>AND (L1 b λa=>EV a d)<|AP 3 1 8 (cl z3) d e λb=>zS 3 (c 2) b<|a [(c 0),(c 2),(c 3),(c 4)]) (a [(c 0),(c 2),(c 3),(c 4)])) λb=>a [(b 0),(b 2),(b 3),(b 4)]) λa=>BO .add (a 4) (I 1) λc=>b [(a 0),(a 2),(a 3),c]) (a [(c 0),(c 2),(c 3)])) [(c 0),(c 2),(c 3),(I 0)]) λb=>a [(b 0),(b 2),(b 3)]) λb=>a [(b 0),(b 2),(b 3)]) λa=>BO .add (a 3) (I 1) λc=>b [(a 0),(a 2),c]) (a [(c 0),(c 2)])) [a0,f,(I 0)]) λb=>a [(b 0),(b 2)]) λa=>zL 3 (a 2) λb=>zN 4 (a 0) λc=>zL 10 c λc=>AP 3 1 8 (cl z3) b c λb=>zS 3 (a 2) b<|LA 15 (a 2) λb=>zN 18 (a 0) λc=>ST 15 c b<|LP [0,5] (λa b=>zN 4 (b 0) λc=>zL 1 c λc=>LN c λc=>BO .lss (b 5) c λc=>IF c (zN 4 (b 0) λc=>zL 1 c λc=>IA 5 c (b 5) λc=>LA 5 c λc=>AL 66 z66 λd=>ST 5 d c<|zL 2 d λc=>zS 3 d c<|zS 4 d (I 0)<|zN 4 (b 0) λc=>zL 1 c λc=>LA 5 d λd=>IA 5 c (b 5) λc=>ST 5 c d<|BO .add (b 5) (I 1) λc=>a [(b 0),c]) (K (.tuple #[]))) [(a 0),(I 1)]
theorem Ld {a0:Value}:zG G3 [a0] (Ft a0):=zG.mk { at_:=[(4,[0,2]),(6,[0,2]),(7,[0,2,3]),(10,[0,2,3]),(11,[0,2,3]),(13,[0,2,3]),(14,[0,2,3,4]),(17,[0,2,3,4]),(18,[0,2,3,4]),(24,[0,5])] } func252 (by kernel_rfl) λ_=>by kernel_rfl
def Hk (a0:Value) (K:Value→M):M:=
 CUT [0] (λa=>CUT [0] (λa=>LP [0] (λb c=>CUT [0,18,25] (λa=>zN 18 (c 0) λb=>zL 3 b λb=>LN b λb=>BO .gtr b (I 0) λb=>GT b false (zN 4 (c 0) λd=>zL 9 d λd=>LN d λd=>BO .gtr d (I 0) λd=>a [(c 0),b,d]) (a [(c 0),b,U])) λc=>CUT [0,27,33] (λa=>zP (c 18) (c 25) λb=>GT b false (zN 18 (c 0) λd=>zL 0 d λd=>BO .eql d (I 2) λd=>a [(c 0),b,d]) (a [(c 0),b,U])) λc=>zP (c 27) (c 33) λd=>IF d (CUT [0] (λa=>zN 18 (c 0) λb=>zL 0 b λb=>BO .eql b (I 2) λb=>IF b (CA P 256 [(c 0)] λb=>a [(c 0)]) (CA P 255 [(c 0)] λb=>a [(c 0)])) λa=>b [(a 0)]) (a [(c 0)])) [a0]) λb=>a [(b 0)]) λa=>zN 4 (a 0) λb=>zS 4 b (.bool false)<|CUT [0,2] (λb=>CUT [0,2] (λb=>LP [0,2,3] (λa c=>zN 4 (c 0) λd=>zL 10 d λd=>LN d λd=>BO .lss (c 3) d λd=>IF d (zN 4 (c 0) λb=>zL 10 b λb=>zI 1 b (c 3) λb=>CA P 54 [b] λb=>BS 3 1 (ZR 1 z3) [(0,1,b)] λb=>AP 3 1 8 (cl z3) (c 2) b λb=>BO .add (c 3) (I 1) λd=>a [(c 0),b,d]) (b [(c 0),(c 2)])) [(a 0),(.slice none 0 0),(I 0)]) λa=>b [(a 0),(a 2)]) λa=>zN 4 (a 0) λb=>zL 1 b λb=>zN 0 (a 0) λc=>zL 2 c λc=>CA P 295 [b,c,(a 2)] λb=>EX 0 b λc=>EX 1 b λb=>CUT [0,4] (λd=>CUT [0,4] (λd=>LP [0,4,5,6] (λa b=>LN (b 5) λc=>BO .lss (b 6) c λc=>IF c (zN 4 (b 0) λc=>zL 1 c λc=>zI 1 (b 5) (b 6) λd=>CA P 296 [c,d] λc=>EX 0 c λd=>EX 1 c λc=>zN 4 (b 0) λc=>zS 1 c d<|BO .add (b 6) (I 1) λc=>a [(b 0),(b 4),(b 5),c]) (d [(b 0),(b 4)])) [(a 0),c,b,(I 0)]) λa=>d [(a 0),(a 4)]) λa=>CUT [0,4] (λb=>CUT [0,4] (λb=>LP [0,4,9] (λa c=>LN (c 4) λd=>BO .lss (c 9) d λd=>IF d (zN 4 (c 0) λb=>FO 1 b λb=>L1 b λd=>IA 1 (c 4) (c 9) λe=>L1 e λf=>IA 5 d f λg=>LA 5 g λh=>AL 66 z66 λi=>AND (L1 b λa=>EV a d)<|AND (L1 e λa=>EV a f)<|AND (LA 5 g λa=>EV a h)<|ST 5 i h<|zS 0 i (I 4)<|zN 4 (c 0) λb=>zL 1 b λb=>zI 1 (c 4) (c 9) λd=>LA 5 i λe=>IA 5 b d λb=>ST 5 b e<|BO .add (c 9) (I 1) λb=>a [(c 0),(c 4),b]) (b [(c 0),(c 4)])) [(a 0),(a 4),(I 0)]) λa=>b [(a 0),(a 4)]) λa=>LN (a 4) λb=>BO .eql b (I 0) λb=>IF b (CA P 297 [(a 0)] λa=>K (.tuple #[])) (zN 4 (a 0) λb=>zS 3 b (I 2)<|zN 18 (a 0) λb=>zL 1 b λb=>zN 18 (a 0) λc=>zL 2 c λc=>BD (cl HJ) [(0,1,(I 5)),(4,1,(I 1)),(5,1,(I 16)),(1,1,b),(2,1,c)] λb=>zN 18 (a 0) λa=>ST 15 a b<|K (.tuple #[]))
theorem Nc {a0:Value}:zG Hb [a0] (Hk a0):=zG.mk { at_:=[(0,[0]),(1,[0]),(2,[0]),(5,[0]),(9,[0,2]),(11,[0,2]),(12,[0,2,3]),(18,[0,4]),(20,[0,4]),(21,[0,4,5,6]),(27,[0,4]),(29,[0,4]),(30,[0,4,9])],rg:=[(0,[(15,[0,18,25]),(8,[0,27,33])])] } func253 (by kernel_rfl) λ_=>by kernel_rfl
def IL (a0:Value) (K:Value→M):M:=
 CUT [0] (λa=>CUT [0] (λa=>LP [0,2] (λb c=>zM 17 (c 0) λd=>LN d λd=>BO .lss (c 2) d λd=>IF d (zM 17 (c 0) λa=>IA 17 a (c 2) λa=>LA 17 a λa=>AL 187 ET λd=>ST 17 d a<|zL 0 d λa=>CA P 98 [a] λa=>zS 0 d a<|CUT [0,2,3] (λa=>CUT [0,2,3] (λa=>LP [0,2,3,4] (λb c=>zL 0 (c 3) λd=>LN d λd=>BO .lss (c 4) d λd=>IF d (CUT [0,2,3,4] (λa=>CUT [0,2,3,4] (λa=>zL 0 (c 3) λb=>zI 1 b (c 4) λb=>CA P 238 [(c 0),b] λb=>IF b (zL 0 (c 3) λb=>zN 4 (c 0) λd=>zL 0 d λd=>zL 0 (c 3) λe=>zI 1 e (c 4) λe=>zI 1 d e λd=>IA 1 b (c 4) λb=>ST 1 b d<|a [(c 0),(c 2),(c 3),(c 4)]) (a [(c 0),(c 2),(c 3),(c 4)])) λb=>a [(b 0),(b 2),(b 3),(b 4)]) λa=>BO .add (a 4) (I 1) λc=>b [(a 0),(a 2),(a 3),c]) (a [(c 0),(c 2),(c 3)])) [(c 0),(c 2),d,(I 0)]) λb=>a [(b 0),(b 2),(b 3)]) λa=>zM 17 (a 0) λc=>LA 17 (a 3) λd=>IA 17 c (a 2) λc=>ST 17 c d<|BO .add (a 2) (I 1) λc=>b [(a 0),c]) (a [(c 0)])) [a0,(I 0)]) λb=>a [(b 0)]) λa=>CUT [0] (λb=>CUT [0] (λb=>LP [0,5] (λa c=>zN 4 (c 0) λd=>zL 1 d λd=>LN d λd=>BO .lss (c 5) d λd=>IF d (CUT [0,5] (λa=>CUT [0,5] (λa=>zN 4 (c 0) λb=>zL 1 b λb=>IA 5 b (c 5) λb=>zL 0 b λb=>BO .eql b (I 4) λb=>IF b (zN 4 (c 0) λb=>zL 1 b λb=>CA P 296 [b,(c 5)] λb=>EX 0 b λd=>EX 1 b λb=>zN 4 (c 0) λb=>zS 1 b d<|a [(c 0),(c 5)]) (a [(c 0),(c 5)])) λb=>a [(b 0),(b 5)]) λb=>BO .add (b 5) (I 1) λc=>a [(b 0),c]) (b [(c 0)])) [(a 0),(I 1)]) λa=>b [(a 0)]) λa=>CA P 297 [(a 0)] λa=>K (.tuple #[])
theorem Np {a0:Value}:zG Hn [a0] (IL a0):=zG.mk { at_:=[(0,[0]),(2,[0]),(3,[0,2]),(10,[0,2,3]),(12,[0,2,3]),(13,[0,2,3,4]),(16,[0,2,3,4]),(17,[0,2,3,4]),(19,[0]),(21,[0]),(22,[0,5]),(25,[0,5]),(26,[0,5])] } func254 (by kernel_rfl) λ_=>by kernel_rfl
def KY (a0:Value) (K:Value→M):M:=
 zN 18 a0 λa=>LA 15 a λa=>AL 165 HJ λb=>ST 15 b a<|zL 3 b λa=>LN a λa=>BO .eql a (I 0) λa=>IF a (CUT [0,2] (λa=>zN 4 a0 λc=>zL 9 c λc=>LN c λc=>BO .eql c (I 0) λc=>IF c (zN 4 a0 λc=>zS 4 c (.bool true)<|zS 2 b (I 2)<|a [a0,b]) (zN 4 a0 λc=>zL 9 c λc=>zI 1 c (I 0) λc=>BS 3 1 (ZR 1 z3) [(0,1,c)] λc=>zS 3 b c<|zN 4 a0 λc=>zL 9 c λc=>SL 1 c (some (I 1)) none λc=>CA P 98 [c] λc=>zN 4 a0 λd=>zS 9 d c<|a [a0,b])) λa=>LA 15 (a 2) λb=>zN 18 (a 0) λa=>ST 15 a b<|K (.tuple #[])) (zL 3 b λa=>zL 3 b λc=>LN c λc=>BO .sub c (I 1) λc=>zI 1 a c λa=>zL 3 b λc=>zL 3 b λd=>LN d λd=>BO .sub d (I 1) λd=>SL 1 c none (some d) λc=>CA P 98 [c] λc=>zS 3 b c<|CA P 54 [a] λc=>CUT [0,2] (λd=>CUT [0,2,3,4,82,91] (λd=>zN 4 a0 λe=>zL 1 e λe=>IA 5 e c λe=>zL 3 e λe=>BO .lss a e λe=>GT e true (zN 4 a0 λf=>zL 2 f λf=>zI 1 f a λf=>NT f λf=>d [a0,b,a,c,e,f]) (d [a0,b,a,c,e,U])) λa=>zA (a 82) (a 91) λb=>IF b (zN 4 (a 0) λb=>zL 2 b λb=>IA 1 b (a 3) λb=>ST 1 b (.bool true)<|BO .add (a 3) (I 1) λb=>CA P 240 [(a 0),b] λb=>CA P 128 [b] λb=>EX 0 b λc=>EX 1 b λb=>AL 60 z60 λb=>ST 2 b c<|zN 4 (a 0) λc=>zL 1 c λc=>IA 5 c (a 4) λc=>LA 5 c λc=>AL 66 z66 λe=>ST 5 e c<|FO 4 e λc=>L1 c λf=>LA 2 b λg=>CA P 63 [g] λg=>BO .add f g λg=>FO 4 e λh=>AND (L1 c λa=>EV a f)<|ST 1 h g<|zN 4 (a 0) λc=>zL 1 c λc=>LA 5 e λe=>IA 5 c (a 4) λc=>ST 5 c e<|zS 5 (a 2) (a 3)<|zS 6 (a 2) (I 0)<|LA 2 b λc=>FO 7 (a 2) λe=>ST 2 e c<|zL 0 b λb=>BO .gtr b (I 0) λb=>IF b (zS 0 (a 2) (I 2)<|d [(a 0),(a 2)]) (d [(a 0),(a 2)])) (d [(a 0),(a 2)])) λa=>LA 15 (a 2) λb=>zN 18 (a 0) λa=>ST 15 a b<|K (.tuple #[]))
theorem RQ {a0:Value}:zG LC [a0] (KY a0):=zG.mk { at_:=[(3,[0,2]),(11,[0,2])],rg:=[(11,[(21,[0,2,3,4,82,91])])] } func255 (by kernel_rfl) λ_=>by kernel_rfl
def MR (a0:Value) (K:Value→M):M:=
 zN 18 a0 λa=>LA 15 a λa=>AL 165 HJ λb=>ST 15 b a<|zL 5 b λa=>BO .add a (I 2) λa=>zL 6 b λc=>BO .add a c λa=>CA P 240 [a0,a] λa=>CUT [0,2] (λc=>BO .neq a (I 0) λd=>IF d (zL 3 b λd=>CA P 98 [d] λd=>BS 3 1 (ZR 1 z3) [(0,1,a)] λa=>AP 3 1 8 (cl z3) d a λa=>zS 3 b a<|c [a0,b]) (c [a0,b])) λa=>zL 6 (a 2) λb=>BO .add b (I 1) λb=>zS 6 (a 2) b<|CUT [0,2] (λb=>zL 6 (a 2) λc=>FO 7 (a 2) λd=>zL 0 d λd=>BO .eql c d λc=>IF c (zS 0 (a 2) (I 1)<|b [(a 0),(a 2)]) (b [(a 0),(a 2)])) λa=>LA 15 (a 2) λb=>zN 18 (a 0) λa=>ST 15 a b<|K (.tuple #[])
theorem Qy {a0:Value}:zG Kq [a0] (MR a0):=zG.mk { at_:=[(2,[0,2]),(5,[0,2])] } func256 (by kernel_rfl) λ_=>by kernel_rfl
def M6 (a0:Value) (K:Value→M):M:=
 zN 18 a0 λa=>LA 15 a λa=>AL 165 HJ λb=>ST 15 b a<|CUT [0,2] (λa=>CUT [0,2] (λa=>LP [0,2] (λb c=>zL 4 (c 2) λd=>zN 4 (c 0) λe=>zL 1 e λe=>LN e λe=>BO .lss d e λd=>IF d (zN 4 (c 0) λd=>FO 1 d λd=>L1 d λe=>FO 4 (c 2) λf=>L1 f λg=>IA 5 e g λh=>LA 5 h λi=>AL 66 z66 λj=>AND (L1 d λa=>EV a e)<|AND (L1 f λa=>EV a g)<|AND (LA 5 h λa=>EV a i)<|ST 5 j i<|CUT [0,2,3] (λa=>CUT [0,2,3] (λa=>LP [0,2,3] (λb c=>CUT [0,2,3,29,34] (λa=>zL 0 (c 3) λb=>BO .eql b (I 4) λb=>GT b true (zL 5 (c 2) λd=>zL 2 (c 3) λe=>BO .lss d e λd=>a [(c 0),(c 2),(c 3),b,d]) (a [(c 0),(c 2),(c 3),b,U])) λc=>CUT [0,2,3,36,46] (λa=>zA (c 29) (c 34) λb=>GT b true (zN 4 (c 0) λd=>zL 2 d λd=>zL 5 (c 2) λe=>zI 1 d e λd=>NT d λd=>a [(c 0),(c 2),(c 3),b,d]) (a [(c 0),(c 2),(c 3),b,U])) λc=>zA (c 36) (c 46) λd=>IF d (zL 5 (c 2) λa=>BO .add a (I 1) λa=>zS 5 (c 2) a<|b [(c 0),(c 2),(c 3)]) (a [(c 0),(c 2),(c 3)])) [(c 0),(c 2),j]) λb=>a [(b 0),(b 2),(b 3)]) λc=>CUT [0,2,55,60] (λa=>zL 0 (c 3) λb=>BO .eql b (I 4) λb=>GT b true (zL 5 (c 2) λd=>zL 2 (c 3) λe=>BO .lss d e λd=>a [(c 0),(c 2),b,d]) (a [(c 0),(c 2),b,U])) λc=>zA (c 55) (c 60) λd=>IF d (a [(c 0),(c 2)]) (zL 4 (c 2) λa=>BO .add a (I 1) λa=>zS 4 (c 2) a<|zL 4 (c 2) λa=>BO .mul a (I 16) λa=>zS 5 (c 2) a<|b [(c 0),(c 2)])) (a [(c 0),(c 2)])) [a0,b]) λb=>a [(b 0),(b 2)]) λa=>zL 4 (a 2) λb=>zN 4 (a 0) λc=>zL 1 c λc=>LN c λc=>BO .eql b c λb=>IF b (zN 4 (a 0) λb=>zS 4 b (.bool true)<|zS 2 (a 2) (I 3)<|LA 15 (a 2) λb=>zN 18 (a 0) λa=>ST 15 a b<|K (.tuple #[])) (zL 5 (a 2) λb=>BO .add b (I 1) λb=>zS 5 (a 2) b<|CUT [0,2] (λb=>zL 5 (a 2) λc=>BO .sub c (I 1) λc=>FO 5 (a 2) λd=>L1 d λe=>BO .sub e (I 1) λf=>CA P 240 [(a 0),c] λc=>BO .eql c f λc=>AND (L1 d λa=>EV a e)<|IF c (zL 5 (a 2) λc=>BO .sub c (I 1) λc=>zS 11 (a 2) c<|zS 0 (a 2) (I 20)<|b [(a 0),(a 2)]) (b [(a 0),(a 2)])) λa=>LA 15 (a 2) λb=>zN 18 (a 0) λa=>ST 15 a b<|K (.tuple #[]))
theorem Ra {a0:Value}:zG Lj [a0] (M6 a0):=zG.mk { at_:=[(1,[0,2]),(2,[0,2]),(3,[0,2]),(8,[0,2,3]),(9,[0,2,3]),(10,[0,2,3]),(23,[0,2])],rg:=[(5,[(9,[0,2,55,60])])],dr:=[(3,[(0,[(9,[0,2,3,29,34]),(12,[0,2,3,36,46])])])] } func257 (by kernel_rfl) λ_=>by kernel_rfl
def KC (a0:Value) (K:Value→M):M:=
 zN 18 a0 λa=>LA 15 a λa=>AL 165 HJ λb=>ST 15 b a<|CUT [0,2] (λa=>zL 0 b λc=>CUT [0,2] (λa=>BO .eql c (I 20) λd=>IF d (zL 11 b λc=>BO .add c (I 1) λc=>CA P 240 [a0,c] λc=>CA P 128 [c] λc=>EX 0 c λd=>EX 1 c λc=>AL 60 z60 λc=>ST 2 c d<|LA 2 c λc=>CA P 63 [c] λc=>zS 13 b c<|zN 4 a0 λc=>zL 1 c λc=>zM 17 a0 λd=>LN d λd=>zL 13 b λe=>CA P 245 [c,d,e] λc=>EX 0 c λd=>EX 1 c λe=>EX 2 c λc=>NT c λc=>IF c (zN 4 a0 λa=>zS 5 a (.bool true)<|zN 4 a0 λa=>zS 4 a (.bool true)<|K (.tuple #[])) (zN 4 a0 λc=>zS 1 c d<|zS 12 b e<|zS 6 b (I 1)<|zS 0 b (I 21)<|a [a0,b])) (BO .eql c (I 21) λd=>IF d (zL 11 b λc=>zL 6 b λd=>BO .add c d λc=>CA P 240 [a0,c] λc=>zS 14 b c<|zS 0 b (I 22)<|a [a0,b]) (BO .eql c (I 22) λd=>IF d (zL 12 b λc=>zL 6 b λd=>BO .add c d λc=>zL 14 b λd=>CA P 247 [a0,c,d] λc=>zL 6 b λc=>BO .add c (I 1) λc=>zS 6 b c<|zS 0 b (I 21)<|zL 6 b λc=>zL 13 b λd=>BO .eql c d λc=>IF c (zS 0 b (I 23)<|a [a0,b]) (a [a0,b])) (BO .eql c (I 23) λd=>IF d (zL 12 b λc=>zL 12 b λd=>CA P 247 [a0,c,d] λc=>zS 0 b (I 24)<|a [a0,b]) (BO .eql c (I 24) λc=>IF c (CUT [0,2] (λa=>zL 11 b λc=>FO 11 b λd=>L1 d λe=>CA P 240 [a0,c] λc=>BO .eql c e λc=>AND (L1 d λa=>EV a e)<|IF c (zL 11 b λc=>zL 12 b λd=>CA P 247 [a0,c,d] λc=>zL 12 b λc=>zL 13 b λd=>CA P 248 [a0,c,d] λc=>a [a0,b]) (a [a0,b])) λb=>zS 0 (b 2) (I 5)<|a [(b 0),(b 2)]) (a [a0,b])))))) λb=>a [(b 0),(b 2)]) λa=>LA 15 (a 2) λb=>zN 18 (a 0) λa=>ST 15 a b<|K (.tuple #[])
theorem OX {a0:Value}:zG JH [a0] (KC a0):=zG.mk { at_:=[(1,[0,2]),(3,[0,2]),(25,[0,2])] } func258 (by kernel_rfl) λ_=>by kernel_rfl
def J7 (a0:Value) (K:Value→M):M:=
 zN 18 a0 λa=>LA 15 a λa=>AL 165 HJ λb=>ST 15 b a<|CUT [0,2] (λa=>zL 0 b λc=>CUT [0,2] (λa=>BO .eql c (I 6) λd=>IF d (CUT [0,2] (λa=>CUT [0,2] (λa=>LP [0,2] (λb c=>CUT [0,2,53] (λa=>CUT [0,2,22,34,35,36,38,43,44,45,46,48,49] (λa=>zL 4 (c 2) λb=>zN 4 (c 0) λd=>zL 1 d λd=>LN d λd=>BO .lss b d λb=>GT b true (zN 4 (c 0) λd=>zL 1 d λd=>zL 4 (c 2) λe=>IA 5 d e λd=>zL 0 d λd=>BO .eql d (I 4) λd=>GT d false (FO 5 (c 2) λe=>L1 e λf=>zL 4 (c 2) λg=>zN 4 (c 0) λh=>FO 1 h λh=>L1 h λi=>FO 4 (c 2) λj=>L1 j λk=>IA 5 i k λl=>FO 4 l λl=>L1 l λm=>a [(c 0),(c 2),b,d,e,f,g,h,i,j,k,l,m]) (a [(c 0),(c 2),b,d,U,U,U,U,U,U,U,U,U])) (a [(c 0),(c 2),b,U,U,U,U,U,U,U,U,U,U])) λb=>GT (b 34) false (CA P 80 [(b 38)] λc=>CUT [0,2,22,34,35,36,43,44,45,46,48,49,51] (λa=>GT (b 34) false (BO .add c (b 49) λc=>BO .geq (b 36) c λc=>a [(b 0),(b 2),(b 22),(b 34),(b 35),(b 36),(b 43),(b 44),(b 45),(b 46),(b 48),(b 49),c]) (a [(b 0),(b 2),(b 22),(b 34),(b 35),(b 36),(b 43),(b 44),(b 45),(b 46),(b 48),(b 49),U])) λb=>CUT [0,2,22,34,35,36,43,44,45,46,48,49,52] (λa=>GT (b 22) true (zP (b 34) (b 51) λc=>a [(b 0),(b 2),(b 22),(b 34),(b 35),(b 36),(b 43),(b 44),(b 45),(b 46),(b 48),(b 49),c]) (a [(b 0),(b 2),(b 22),(b 34),(b 35),(b 36),(b 43),(b 44),(b 45),(b 46),(b 48),(b 49),U])) λb=>zA (b 22) (b 52) λc=>AND (GT (b 34) false (L1 (b 35) λa=>EV a (b 36)) (EV U (b 36)))<|AND (GT (b 34) false (L1 (b 43) λa=>EV a (b 44)) (EV U (b 44)))<|AND (GT (b 34) false (L1 (b 45) λa=>EV a (b 46)) (EV U (b 46)))<|AND (GT (b 34) false (L1 (b 48) λa=>EV a (b 49)) (EV U (b 49)))<|a [(b 0),(b 2),c]) (CUT [0,2,22,34,35,36,43,44,45,46,48,49,51] (λa=>GT (b 34) false (BO .add U (b 49) λc=>BO .geq (b 36) c λc=>a [(b 0),(b 2),(b 22),(b 34),(b 35),(b 36),(b 43),(b 44),(b 45),(b 46),(b 48),(b 49),c]) (a [(b 0),(b 2),(b 22),(b 34),(b 35),(b 36),(b 43),(b 44),(b 45),(b 46),(b 48),(b 49),U])) λb=>CUT [0,2,22,34,35,36,43,44,45,46,48,49,52] (λa=>GT (b 22) true (zP (b 34) (b 51) λc=>a [(b 0),(b 2),(b 22),(b 34),(b 35),(b 36),(b 43),(b 44),(b 45),(b 46),(b 48),(b 49),c]) (a [(b 0),(b 2),(b 22),(b 34),(b 35),(b 36),(b 43),(b 44),(b 45),(b 46),(b 48),(b 49),U])) λb=>zA (b 22) (b 52) λc=>AND (GT (b 34) false (L1 (b 35) λa=>EV a (b 36)) (EV U (b 36)))<|AND (GT (b 34) false (L1 (b 43) λa=>EV a (b 44)) (EV U (b 44)))<|AND (GT (b 34) false (L1 (b 45) λa=>EV a (b 46)) (EV U (b 46)))<|AND (GT (b 34) false (L1 (b 48) λa=>EV a (b 49)) (EV U (b 49)))<|a [(b 0),(b 2),c])) λc=>IF (c 53) (zL 4 (c 2) λa=>BO .add a (I 1) λa=>zS 4 (c 2) a<|zL 4 (c 2) λa=>BO .mul a (I 16) λa=>zS 5 (c 2) a<|b [(c 0),(c 2)]) (a [(c 0),(c 2)])) [a0,b]) λb=>a [(b 0),(b 2)]) λb=>zL 4 (b 2) λc=>zN 4 (b 0) λd=>zL 1 d λd=>LN d λd=>BO .eql c d λc=>IF c (zN 4 (b 0) λc=>zS 4 c (.bool true)<|zS 2 (b 2) (I 0)<|a [(b 0),(b 2)]) (zL 5 (b 2) λc=>zS 10 (b 2) c<|zL 5 (b 2) λc=>BO .add c (I 1) λc=>CA P 240 [(b 0),c] λc=>CA P 128 [c] λc=>EX 0 c λd=>EX 1 c λc=>AL 60 z60 λc=>ST 2 c d<|LA 2 c λc=>FO 7 (b 2) λd=>ST 2 d c<|FO 5 (b 2) λc=>L1 c λd=>FO 7 (b 2) λe=>LA 2 e λe=>CA P 63 [e] λe=>BO .add d e λe=>FO 5 (b 2) λf=>AND (L1 c λa=>EV a d)<|ST 1 f e<|zS 6 (b 2) (I 0)<|CUT [0,2,102,126] (λa=>FO 7 (b 2) λc=>zL 0 c λc=>BO .gtr c (I 0) λc=>GT c true (zL 10 (b 2) λd=>zN 4 (b 0) λe=>zL 1 e λe=>zL 4 (b 2) λf=>IA 5 e f λe=>zL 3 e λe=>BO .geq d e λd=>GT d false (zN 4 (b 0) λe=>zL 2 e λe=>zL 10 (b 2) λf=>zI 1 e f λe=>zP d e λd=>a [(b 0),(b 2),c,d]) (zP d U λd=>a [(b 0),(b 2),c,d])) (a [(b 0),(b 2),c,U])) λb=>zA (b 102) (b 126) λc=>IF c (zS 0 (b 2) (I 7)<|a [(b 0),(b 2)]) (a [(b 0),(b 2)]))) (BO .eql c (I 7) λd=>IF d (zL 10 b λc=>BO .add c (I 2) λc=>zL 6 b λd=>BO .add c d λc=>CA P 240 [a0,c] λc=>zS 9 b c<|zL 9 b λc=>CA P 238 [a0,c] λc=>IF c (zS 0 b (I 8)<|a [a0,b]) (LA 15 b λc=>CA P 298 [c] λc=>ST 15 b c<|a [a0,b])) (BO .eql c (I 8) λd=>IF d (zL 9 b λc=>CA P 240 [a0,c] λc=>zS 14 b c<|zS 0 b (I 9)<|zL 14 b λc=>zL 9 b λd=>BO .eql c d λc=>IF c (LA 15 b λc=>CA P 298 [c] λc=>ST 15 b c<|a [a0,b]) (a [a0,b])) (BO .eql c (I 9) λc=>IF c (CUT [0,2] (λa=>zL 10 b λc=>BO .add c (I 2) λc=>zL 6 b λd=>BO .add c d λc=>FO 9 b λd=>L1 d λe=>CA P 240 [a0,c] λc=>BO .eql c e λc=>AND (L1 d λa=>EV a e)<|IF c (zL 10 b λc=>BO .add c (I 2) λc=>zL 6 b λd=>BO .add c d λc=>zL 14 b λd=>CA P 247 [a0,c,d] λc=>a [a0,b]) (a [a0,b])) λb=>LA 15 (b 2) λc=>CA P 298 [c] λc=>ST 15 (b 2) c<|a [(b 0),(b 2)]) (a [a0,b]))))) λb=>a [(b 0),(b 2)]) λa=>LA 15 (a 2) λb=>zN 18 (a 0) λa=>ST 15 a b<|K (.tuple #[])
theorem On {a0:Value}:zG Jn [a0] (J7 a0):=zG.mk { at_:=[(1,[0,2]),(3,[0,2]),(5,[0,2]),(6,[0,2]),(7,[0,2]),(9,[0,2,53]),(30,[0,2])],dr:=[(3,[(0,[(36,[0,2,22,34,35,36,38,43,44,45,46,48,49])]),(67108864,[(2,[0,2,22,34,35,36,43,44,45,46,48,49,51]),(1,[0,2,22,34,35,36,43,44,45,46,48,49,52])])]),(14,[(0,[(29,[0,2,102,126])])])] } func259 (by kernel_rfl) λ_=>by kernel_rfl
end Go.Lf
end
section
namespace Go.Lf
open Go Go.Proofs Go.Proofs.Tryz
def Hg (a0:Value) (K:Value→M):M:=
 CUT [0,5,7] (λa=>BO .eql a0 (I 2) λb=>GT b false (BO .eql a0 (I 3) λc=>a [a0,b,c]) (a [a0,b,U])) λa=>CUT [0,9,11] (λb=>zP (a 5) (a 7) λc=>GT c false (BO .eql (a 0) (I 4) λd=>b [(a 0),c,d]) (b [(a 0),c,U])) λa=>CUT [0,13,15] (λb=>zP (a 9) (a 11) λc=>GT c false (BO .eql (a 0) (I 5) λd=>b [(a 0),c,d]) (b [(a 0),c,U])) λa=>CUT [17,19] (λb=>zP (a 13) (a 15) λc=>GT c false (BO .eql (a 0) (I 7) λa=>b [c,a]) (b [c,U])) λa=>zP (a 17) (a 19) λa=>K a
theorem Nj {a0:Value}:zG IT [a0] (Hg a0):=zG.mk { rg:=[(1,[(5,[0,5,7]),(4,[0,9,11]),(4,[0,13,15]),(4,[17,19])])] } func289 (by kernel_rfl) λ_=>by kernel_rfl
def NF (a0 a1:Value) (K:Value→M):M:=
 LP [0,1,5] (λa b=>LN (b 0) λc=>BO .lss (b 5) c λc=>IF c (CUT [0,1,5,18,25] (λa=>IA 5 (b 0) (b 5) λc=>zL 0 c λc=>BO .eql c (I 2) λc=>GT c true (IA 5 (b 0) (b 5) λd=>zL 1 d λd=>BO .eql d (b 1) λd=>a [(b 0),(b 1),(b 5),c,d]) (a [(b 0),(b 1),(b 5),c,U])) λb=>zA (b 18) (b 25) λc=>IF c (K (b 5)) (BO .add (b 5) (I 1) λc=>a [(b 0),(b 1),c])) (K (I (-1)))) [a0,a1,(I 1)]
theorem Se {a0 a1:Value}:zG N0 [a0,a1] (NF a0 a1):=zG.mk { at_:=[(4,[0,1,5])],rg:=[(4,[(14,[0,1,5,18,25])])] } func290 (by kernel_rfl) λ_=>by kernel_rfl
def L6 (a0:Value) (K:Value→M):M:=
 BS 66 0 (ZR 0 z66) [] λa=>AP 66 5 40 (cl z66) a a0 λa=>K a
theorem QM {a0:Value}:zG KU [a0] (L6 a0):=zG.mk {} func291 (by kernel_rfl) λ_=>by kernel_rfl
def Fw (a0 a1:Value) (K:Value→M):M:=
 CUT [0,1,11,13] (λa=>CA P 82 [a0] λb=>NT b λb=>GT b false (BO .lss a1 (I 1) λc=>a [a0,a1,b,c]) (a [a0,a1,b,U])) λa=>CUT [0,1,15,19] (λb=>zP (a 11) (a 13) λc=>GT c false (LN (a 0) λd=>BO .geq (a 1) d λd=>b [(a 0),(a 1),c,d]) (b [(a 0),(a 1),c,U])) λa=>CUT [0,1,21,27] (λb=>zP (a 15) (a 19) λc=>GT c false (IA 5 (a 0) (a 1) λd=>zL 0 d λd=>BO .neq d (I 2) λd=>b [(a 0),(a 1),c,d]) (b [(a 0),(a 1),c,U])) λa=>zP (a 21) (a 27) λb=>IF b (K (.tuple #[(.slice none 0 0),(.bool false)])) (CA P 291 [(a 0)] λb=>IA 5 b (a 1) λc=>LA 5 c λc=>AL 66 z66 λd=>ST 5 d c<|zS 0 d (I 3)<|zS 1 d (I (-1))<|LA 5 d λc=>IA 5 b (a 1) λa=>ST 5 a c<|K (.tuple #[b,(.bool true)]))
theorem Lm {a0 a1:Value}:zG Fo [a0,a1] (Fw a0 a1):=zG.mk { rg:=[(1,[(6,[0,1,11,13]),(6,[0,1,15,19]),(8,[0,1,21,27])])] } func292 (by kernel_rfl) λ_=>by kernel_rfl
def Gc (a0 a1:Value) (K:Value→M):M:=
 CUT [0,1,12,14] (λa=>CA P 82 [a0] λb=>NT b λb=>GT b false (BO .lss a1 (I 0) λc=>a [a0,a1,b,c]) (a [a0,a1,b,U])) λa=>CUT [0,1,16,18] (λb=>zP (a 12) (a 14) λc=>GT c false (BO .gtr (a 1) (I 3) λd=>b [(a 0),(a 1),c,d]) (b [(a 0),(a 1),c,U])) λa=>CUT [0,1,20,24] (λb=>zP (a 16) (a 18) λc=>GT c false (CA P 290 [(a 0),(a 1)] λd=>BO .geq d (I 0) λd=>b [(a 0),(a 1),c,d]) (b [(a 0),(a 1),c,U])) λa=>zP (a 20) (a 24) λb=>IF b (K (.tuple #[(.slice none 0 0),(I 0),(.bool false)])) (CUT [] (λb=>LP [0,1,7] (λa c=>LN (c 0) λd=>BO .lss (c 7) d λd=>IF d (IA 5 (c 0) (c 7) λb=>zL 0 b λb=>BO .eql b (I 1) λb=>IF b (CA P 291 [(c 0)] λa=>CA P 80 [(c 7)] λb=>CA P 80 [(c 7)] λd=>BD (cl z66) [(0,1,(I 2)),(1,1,(c 1)),(2,1,b),(3,1,d)] λb=>IA 5 a (c 7) λd=>ST 5 d b<|K (.tuple #[a,(c 7),(.bool true)])) (BO .add (c 7) (I 1) λb=>a [(c 0),(c 1),b])) (b [])) [(a 0),(a 1),(I 1)]) λa=>K (.tuple #[(.slice none 0 0),(I 0),(.bool false)]))
theorem Ml {a0 a1:Value}:zG Gl [a0,a1] (Gc a0 a1):=zG.mk { at_:=[(4,[]),(7,[0,1,7])],rg:=[(1,[(6,[0,1,12,14]),(4,[0,1,16,18]),(6,[0,1,20,24])])] } func293 (by kernel_rfl) λ_=>by kernel_rfl
def IS (a0:Value) (K:Value→M):M:=
 zN 4 a0 λa=>zL 2 a λa=>LN a λa=>MS 4 1 1 (cl z4) a a λa=>zN 4 a0 λb=>zS 2 b a<|K (.tuple #[])
theorem Nm {a0:Value}:zG HT [a0] (IS a0):=zG.mk {} func294 (by kernel_rfl) λ_=>by kernel_rfl
def Fg (a0 a1 a2:Value) (K:Value→M):M:=
 CA P 82 [a0] λa=>NT a λa=>IF a (K (.tuple #[(.slice none 0 0),(.slice none 0 0)])) (CUT [8,9] (λa=>CUT [8,9] (λa=>LP [0,2,8,9,10,11] (λb c=>BO .leq (c 11) (I 16) λd=>IF d (CUT [0,2,8,9,10,11] (λa=>CUT [0,2,8,9,10,11] (λa=>CUT [0,2,8,9,10,11] (λa=>LP [0,2,8,9,10,11,12] (λb c=>LN (c 0) λd=>BO .lss (c 12) d λd=>IF d (CUT [0,2,8,9,10,11,12] (λa=>CUT [0,2,8,9,10,11,12] (λa=>IA 5 (c 0) (c 12) λb=>LA 5 b λb=>AL 66 z66 λd=>ST 5 d b<|CUT [0,2,8,9,10,11,12,62] (λa=>CUT [0,2,8,9,10,11,12,13,35,40] (λa=>zL 0 d λb=>BO .neq b (I 3) λb=>GT b false (zL 2 d λe=>zL 3 d λf=>BO .neq e f λe=>a [(c 0),(c 2),(c 8),(c 9),(c 10),(c 11),(c 12),d,b,e]) (a [(c 0),(c 2),(c 8),(c 9),(c 10),(c 11),(c 12),d,b,U])) λb=>CUT [0,2,8,9,10,11,12,13,42,46] (λa=>zP (b 35) (b 40) λc=>GT c false (zL 4 (b 13) λd=>BO .neq d (b 11) λd=>a [(b 0),(b 2),(b 8),(b 9),(b 10),(b 11),(b 12),(b 13),c,d]) (a [(b 0),(b 2),(b 8),(b 9),(b 10),(b 11),(b 12),(b 13),c,U])) λb=>CUT [0,2,8,9,10,11,12,48,49,50,51,52,53] (λa=>zP (b 42) (b 46) λc=>GT c false (FO 4 (b 13) λd=>L1 d λe=>FO 2 (b 13) λf=>L1 f λg=>a [(b 0),(b 2),(b 8),(b 9),(b 10),(b 11),(b 12),c,d,e,f,g,(b 12)]) (a [(b 0),(b 2),(b 8),(b 9),(b 10),(b 11),(b 12),c,U,U,U,U,U])) λb=>GT (b 48) false (CA P 80 [(b 53)] λc=>CUT [0,2,8,9,10,11,12,48,49,50,51,52,56] (λa=>GT (b 48) false (BO .sub (b 52) c λc=>BO .geq (b 50) c λc=>a [(b 0),(b 2),(b 8),(b 9),(b 10),(b 11),(b 12),(b 48),(b 49),(b 50),(b 51),(b 52),c]) (a [(b 0),(b 2),(b 8),(b 9),(b 10),(b 11),(b 12),(b 48),(b 49),(b 50),(b 51),(b 52),U])) λb=>CUT [0,2,8,9,10,11,12,48,49,50,51,52,58,59,60] (λa=>zP (b 48) (b 56) λc=>GT c false (a [(b 0),(b 2),(b 8),(b 9),(b 10),(b 11),(b 12),(b 48),(b 49),(b 50),(b 51),(b 52),c,(b 2),(b 12)]) (a [(b 0),(b 2),(b 8),(b 9),(b 10),(b 11),(b 12),(b 48),(b 49),(b 50),(b 51),(b 52),c,U,U])) λb=>AND (GT (b 48) false (L1 (b 49) λa=>EV a (b 50)) (EV U (b 50)))<|AND (GT (b 48) false (L1 (b 51) λa=>EV a (b 52)) (EV U (b 52)))<|GT (b 58) false (CA P 314 [(b 59),(b 60)] λc=>zP (b 58) c λc=>a [(b 0),(b 2),(b 8),(b 9),(b 10),(b 11),(b 12),c]) (zP (b 58) U λc=>a [(b 0),(b 2),(b 8),(b 9),(b 10),(b 11),(b 12),c])) (CUT [0,2,8,9,10,11,12,48,49,50,51,52,56] (λa=>GT (b 48) false (BO .sub (b 52) U λc=>BO .geq (b 50) c λc=>a [(b 0),(b 2),(b 8),(b 9),(b 10),(b 11),(b 12),(b 48),(b 49),(b 50),(b 51),(b 52),c]) (a [(b 0),(b 2),(b 8),(b 9),(b 10),(b 11),(b 12),(b 48),(b 49),(b 50),(b 51),(b 52),U])) λb=>CUT [0,2,8,9,10,11,12,48,49,50,51,52,58,59,60] (λa=>zP (b 48) (b 56) λc=>GT c false (a [(b 0),(b 2),(b 8),(b 9),(b 10),(b 11),(b 12),(b 48),(b 49),(b 50),(b 51),(b 52),c,(b 2),(b 12)]) (a [(b 0),(b 2),(b 8),(b 9),(b 10),(b 11),(b 12),(b 48),(b 49),(b 50),(b 51),(b 52),c,U,U])) λb=>AND (GT (b 48) false (L1 (b 49) λa=>EV a (b 50)) (EV U (b 50)))<|AND (GT (b 48) false (L1 (b 51) λa=>EV a (b 52)) (EV U (b 52)))<|GT (b 58) false (CA P 314 [(b 59),(b 60)] λc=>zP (b 58) c λc=>a [(b 0),(b 2),(b 8),(b 9),(b 10),(b 11),(b 12),c]) (zP (b 58) U λc=>a [(b 0),(b 2),(b 8),(b 9),(b 10),(b 11),(b 12),c]))) λb=>IF (b 62) (a [(b 0),(b 2),(b 8),(b 9),(b 10),(b 11),(b 12)]) (BO .eql (b 11) (I 0) λc=>IF c (BS 3 1 (ZR 1 z3) [(0,1,(b 12))] λc=>AP 3 1 8 (cl z3) (b 9) c λc=>a [(b 0),(b 2),(b 8),c,(b 10),(b 11),(b 12)]) (BO .leq (b 11) (b 10) λc=>IF c (BS 3 1 (ZR 1 z3) [(0,1,(b 12))] λc=>AP 3 1 8 (cl z3) (b 8) c λc=>BO .sub (b 10) (b 11) λd=>a [(b 0),(b 2),c,(b 9),d,(b 11),(b 12)]) (a [(b 0),(b 2),(b 8),(b 9),(b 10),(b 11),(b 12)])))) λb=>a [(b 0),(b 2),(b 8),(b 9),(b 10),(b 11),(b 12)]) λa=>BO .add (a 12) (I 1) λc=>b [(a 0),(a 2),(a 8),(a 9),(a 10),(a 11),c]) (a [(c 0),(c 2),(c 8),(c 9),(c 10),(c 11)])) [(c 0),(c 2),(c 8),(c 9),(c 10),(c 11),(I 1)]) λb=>a [(b 0),(b 2),(b 8),(b 9),(b 10),(b 11)]) λb=>a [(b 0),(b 2),(b 8),(b 9),(b 10),(b 11)]) λa=>BO .add (a 11) (I 1) λc=>b [(a 0),(a 2),(a 8),(a 9),(a 10),c]) (a [(c 8),(c 9)])) [a0,a2,(.slice none 0 0),(.slice none 0 0),a1,(I 0)]) λb=>a [(b 8),(b 9)]) λa=>K (.tuple #[(a 8),(a 9)]))
theorem KI {a0 a1 a2:Value}:zG Fe [a0,a1,a2] (Fg a0 a1 a2):=zG.mk { at_:=[(7,[8,9]),(9,[8,9]),(10,[0,2,8,9,10,11]),(13,[0,2,8,9,10,11]),(14,[0,2,8,9,10,11]),(16,[0,2,8,9,10,11]),(17,[0,2,8,9,10,11,12]),(20,[0,2,8,9,10,11,12]),(21,[0,2,8,9,10,11,12]),(24,[0,2,8,9,10,11,12,62])],dr:=[(13,[(0,[(9,[0,2,8,9,10,11,12,13,35,40]),(6,[0,2,8,9,10,11,12,13,42,46]),(7,[0,2,8,9,10,11,12,48,49,50,51,52,53])]),(4194304,[(2,[0,2,8,9,10,11,12,48,49,50,51,52,56]),(4,[0,2,8,9,10,11,12,48,49,50,51,52,58,59,60])])])] } func295 (by kernel_rfl) λ_=>by kernel_rfl
def H4 (a0 a1:Value) (K:Value→M):M:=
 CUT [0,1,10,12] (λa=>CA P 82 [a0] λb=>NT b λb=>GT b false (BO .lss a1 (I 1) λc=>a [a0,a1,b,c]) (a [a0,a1,b,U])) λa=>CUT [0,1,14,18] (λb=>zP (a 10) (a 12) λc=>GT c false (LN (a 0) λd=>BO .geq (a 1) d λd=>b [(a 0),(a 1),c,d]) (b [(a 0),(a 1),c,U])) λa=>CUT [0,1,20,26] (λb=>zP (a 14) (a 18) λc=>GT c false (IA 5 (a 0) (a 1) λd=>zL 0 d λd=>BO .eql d (I 1) λd=>b [(a 0),(a 1),c,d]) (b [(a 0),(a 1),c,U])) λa=>zP (a 20) (a 26) λb=>IF b (K (.tuple #[(.slice none 0 0),(.bool false)])) (CA P 291 [(a 0)] λb=>CA P 80 [(a 1)] λc=>CA P 80 [(a 1)] λd=>BD (cl z66) [(0,1,(I 1)),(1,1,(I (-1))),(2,1,c),(3,1,d)] λc=>IA 5 b (a 1) λa=>ST 5 a c<|K (.tuple #[b,(.bool true)]))
theorem Mf {a0 a1:Value}:zG Gg [a0,a1] (H4 a0 a1):=zG.mk { rg:=[(1,[(6,[0,1,10,12]),(6,[0,1,14,18]),(8,[0,1,20,26])])] } func296 (by kernel_rfl) λ_=>by kernel_rfl
def ML (a0:Value) (K:Value→M):M:=
 CA P 294 [a0] λa=>zN 4 a0 λa=>zS 3 a (I 0)<|zN 18 a0 λa=>zL 1 a λa=>BD (cl HJ) [(1,1,a)] λa=>zN 18 a0 λb=>ST 15 b a<|zN 4 a0 λa=>zL 11 a λa=>BO .add a (I 1) λa=>zN 4 a0 λb=>zS 11 b a<|LP [0,2] (λa b=>zN 4 (b 0) λc=>zL 1 c λc=>LN c λc=>BO .lss (b 2) c λc=>IF c (zN 4 (b 0) λc=>zL 1 c λc=>IA 5 c (b 2) λc=>LA 5 c λc=>AL 66 z66 λd=>ST 5 d c<|zS 4 d (I 0)<|zN 4 (b 0) λc=>zL 1 c λc=>LA 5 d λd=>IA 5 c (b 2) λc=>ST 5 c d<|BO .add (b 2) (I 1) λc=>a [(b 0),c]) (K (.tuple #[]))) [a0,(I 1)]
theorem QN {a0:Value}:zG MQ [a0] (ML a0):=zG.mk { at_:=[(6,[0,2])] } func297 (by kernel_rfl) λ_=>by kernel_rfl
def Ll (a0:Value) (K:Value→M):M:=
 AL 165 a0 λa=>AL 165 HJ λb=>zL 6 a λc=>BO .add c (I 1) λc=>zS 6 a c<|zS 0 a (I 7)<|CUT [1,2] (λc=>zL 6 a λd=>FO 7 a λe=>zL 0 e λe=>BO .eql d e λd=>IF d (zS 0 a (I 6)<|c [a,b]) (c [a,b])) λa=>LA 15 (a 1) λb=>ST 15 (a 2) b<|LA 15 (a 2) λa=>K a
theorem QE {a0:Value}:zG MA [a0] (Ll a0):=zG.mk { at_:=[(3,[1,2])] } func298 (by kernel_rfl) λ_=>by kernel_rfl
def NM (a0 a1:Value) (K:Value→M):M:=
 LP [0,1,5] (λa b=>LN (b 0) λc=>BO .lss (b 5) c λc=>IF c (zI 1 (b 0) (b 5) λc=>BO .eql c (b 1) λc=>IF c (K (.bool true)) (BO .add (b 5) (I 1) λc=>a [(b 0),(b 1),c])) (K (.bool false))) [a0,a1,(I 0)]
theorem Sb {a0 a1:Value}:zG NP [a0,a1] (NM a0 a1):=zG.mk { at_:=[(4,[0,1,5])] } func314 (by kernel_rfl) λ_=>by kernel_rfl
end Go.Lf
end
section
namespace Go.Lf
open Go Go.Proofs Go.Proofs.Tryz
def GG (a0:Value) (K:Value→M):M:=
 LN a0 λa=>BO .gtr a (I 1048576) λa=>IF a (K (.bool true)) (CA P 36 [a0] λa=>AL 28 z28 λb=>ST 13 b a<|LA 13 b λa=>CA P 30 [a] λa=>EX 0 a λc=>EX 1 a λa=>LA 13 b λd=>CA P 37 [d] λd=>EX 0 d λe=>EX 1 d λd=>CUT [3,4,31,35] (λf=>X P (do eqGuard .neq 4 (.tmp 28) (.tmp 29) a d;binOp .neq 4 a d) λa=>GT a false (CA P 38 [c,e] λd=>NT d λd=>f [b,c,a,d]) (f [b,c,a,U])) λa=>zP (a 31) (a 35) λb=>IF b (K (.bool false)) (CUT [3,4] (λb=>CUT [3,4] (λb=>LP [3,4,8] (λa c=>LN (c 4) λd=>BO .lss (c 8) d λd=>IF d (CUT [3,4,8,9,10] (λa=>FO 0 (c 3) λb=>L1 b λd=>IA 1 (c 4) (c 8) λe=>L1 e λf=>ALL [CA P 39 [d,f] λg=>EX 0 g λh=>EX 1 g λg=>AL 62 z62 λi=>ST 6 i h<|a [(c 3),(c 4),(c 8),i,g],
 AL 62 z62 λg=>AND (L1 b λa=>EV a d)<|AND (L1 e λa=>EV a f)<|CA P 39 [d,f] λb=>EX 0 b λd=>EX 1 b λb=>ST 6 g d<|a [(c 3),(c 4),(c 8),g,b]]) λb=>CUT [3,4,8,100] (λa=>CUT [3,4,8,9,55,62] (λa=>NT (b 10) λc=>GT c false (zL 1 (b 9) λd=>zI 1 (b 4) (b 8) λe=>BO .neq d e λd=>a [(b 3),(b 4),(b 8),(b 9),c,d]) (a [(b 3),(b 4),(b 8),(b 9),c,U])) λb=>CUT [3,4,8,9,64,78] (λa=>zP (b 55) (b 62) λc=>GT c false (BO .gtr (b 8) (I 0) λd=>GT d true (BO .sub (b 8) (I 1) λe=>zI 1 (b 4) e λe=>zI 1 (b 4) (b 8) λf=>BO .geq e f λe=>zA d e λd=>a [(b 3),(b 4),(b 8),(b 9),c,d]) (zA d U λd=>a [(b 3),(b 4),(b 8),(b 9),c,d])) (a [(b 3),(b 4),(b 8),(b 9),c,U])) λb=>CUT [3,4,8,80,81,82,86,93,94,95,96] (λa=>zP (b 64) (b 78) λc=>GT c false (FO 1 (b 3) λd=>L1 d λe=>zI 1 (b 4) (b 8) λf=>IA 1 (b 4) (b 8) λg=>L1 g λh=>FO 2 (b 9) λi=>LA 2 i λj=>a [(b 3),(b 4),(b 8),c,d,e,f,g,h,i,j]) (a [(b 3),(b 4),(b 8),c,U,U,U,U,U,U,U])) λb=>GT (b 80) false (CA P 40 [(b 86)] λc=>IA 5 (b 82) c λc=>FO 2 c λc=>L1 c λd=>AND (L1 (b 81) λa=>EV a (b 82))<|AND (L1 (b 93) λa=>EV a (b 94))<|AND (LA 2 (b 95) λa=>EV a (b 96))<|CA P 41 [(b 96)] λe=>BO .add (b 94) e λe=>BO .lss d e λe=>zP (b 80) e λe=>AND (L1 (b 81) λa=>EV a (b 82))<|AND (L1 c λa=>EV a d)<|AND (L1 (b 93) λa=>EV a (b 94))<|a [(b 3),(b 4),(b 8),e]) (AND (EV U (b 82))<|AND (EV U (b 94))<|AND (EV U (b 96))<|zP (b 80) U λc=>AND (EV U (b 82))<|AND (EV U U)<|AND (EV U (b 94))<|a [(b 3),(b 4),(b 8),c])) λb=>IF (b 100) (K (.bool false)) (BO .add (b 8) (I 1) λc=>a [(b 3),(b 4),c])) (b [(c 3),(c 4)])) [(a 3),(a 4),(I 0)]) λa=>b [(a 3),(a 4)]) λa=>LA 13 (a 3) λb=>CA P 23 [b] λb=>EX 0 b λc=>EX 1 b λb=>AL 42 z42 λb=>ST 3 b c<|zL 0 b λb=>LN b λb=>LN (a 4) λa=>BO .eql b a λa=>K a))
theorem Lo {a0:Value}:zG GI [a0] (GG a0):=zG.mk { at_:=[(10,[3,4]),(12,[3,4]),(13,[3,4,8]),(18,[3,4,8,9,10]),(19,[3,4,8,100])],rg:=[(6,[(8,[3,4,31,35])])],dr:=[(12,[(0,[(10,[3,4,8,9,55,62]),(16,[3,4,8,9,64,78]),(14,[3,4,8,80,81,82,86,93,94,95,96])])])] } func7 (by kernel_rfl) λ_=>by kernel_rfl
def I9 (a0:Value) (K:Value→M):M:=
 AL 33 a0 λa=>AL 28 z28 λb=>LA 3 a λc=>CA P 60 [c] λc=>NT c λc=>IF c (BD (cl z28) [] λa=>ST 13 b a<|LA 13 b λa=>K (.tuple #[a,(.bool false)])) (zL 0 a λc=>CA P 61 [c] λc=>EX 0 c λd=>EX 1 c λc=>CUT [1,2,6] (λc=>FO 0 a λe=>L1 e λf=>BO .mul f (I 16) λg=>FO 0 a λh=>L1 h λi=>BO .mul i (I 16) λj=>ALL [MS 3 1 8 (cl z3) g g λk=>AND (L1 h λa=>EV a i)<|ALL [MS 4 1 1 (cl z4) j j λe=>BD (cl z28) [(0,1,k),(1,1,d),(2,1,e)] λe=>AL 28 z28 λf=>ST 13 f e<|c [a,b,f],
 AL 28 z28 λe=>AND (L1 h λa=>EV a i)<|MS 4 1 1 (cl z4) j j λf=>BD (cl z28) [(0,1,k),(1,1,d),(2,1,f)] λd=>ST 13 e d<|c [a,b,e]],
 MS 4 1 1 (cl z4) j j λk=>AND (L1 e λa=>EV a f)<|ALL [MS 3 1 8 (cl z3) g g λh=>BD (cl z28) [(0,1,h),(1,1,d),(2,1,k)] λh=>AL 28 z28 λi=>ST 13 i h<|c [a,b,i],
 AL 28 z28 λh=>AND (L1 e λa=>EV a f)<|MS 3 1 8 (cl z3) g g λe=>BD (cl z28) [(0,1,e),(1,1,d),(2,1,k)] λd=>ST 13 h d<|c [a,b,h]],
 AL 28 z28 λk=>AND (L1 e λa=>EV a f)<|AND (L1 h λa=>EV a i)<|ALL [MS 3 1 8 (cl z3) g g λl=>AND (L1 h λa=>EV a i)<|MS 4 1 1 (cl z4) j j λh=>BD (cl z28) [(0,1,l),(1,1,d),(2,1,h)] λh=>ST 13 k h<|c [a,b,k],
 MS 4 1 1 (cl z4) j j λh=>AND (L1 e λa=>EV a f)<|MS 3 1 8 (cl z3) g g λe=>BD (cl z28) [(0,1,e),(1,1,d),(2,1,h)] λd=>ST 13 k d<|c [a,b,k]]]) λa=>BD (cl z60) [(0,1,(I 4)),(1,1,(I 2))] λb=>AL 60 z60 λc=>ST 2 c b<|zL 0 (a 6) λb=>LA 2 c λd=>CA P 62 [b,(I 16),d] λb=>EX 0 b λd=>EX 1 b λb=>zS 0 (a 6) d<|LA 2 c λb=>CA P 63 [b] λb=>BO .add (I 16) b λb=>zL 1 (a 6) λc=>BD (cl z66) [(0,1,(I 3)),(1,1,(I (-1))),(2,1,b),(3,1,b)] λb=>IA 5 c (I 1) λc=>ST 5 c b<|CUT [2,6] (λb=>CUT [2,6] (λb=>LP [1,2,6,11] (λa c=>zL 1 (c 1) λd=>BO .lss (c 11) d λd=>IF d (zL 8 (c 6) λb=>BS 3 1 (ZR 1 z3) [(0,1,(I 16))] λd=>BD (cl z83) [(0,1,d)] λd=>BS 83 1 (ZR 1 z83) [(0,4,d)] λd=>AP 83 4 48 (cl z83) b d λb=>zS 8 (c 6) b<|BO .add (c 11) (I 1) λb=>a [(c 1),(c 2),(c 6),b]) (b [(c 2),(c 6)])) [(a 1),(a 2),(a 6),(I 0)]) λa=>b [(a 2),(a 6)]) λa=>LA 13 (a 6) λb=>ST 13 (a 2) b<|LA 13 (a 2) λa=>K (.tuple #[a,(.bool true)]))
theorem Nd {a0:Value}:zG He [a0] (I9 a0):=zG.mk { at_:=[(5,[1,2,6]),(11,[2,6]),(13,[2,6]),(14,[1,2,6,11])] } func19 (by kernel_rfl) λ_=>by kernel_rfl
def Fx (a0:Value) (K:Value→M):M:=
 AL 28 a0 λa=>AL 42 z42 λb=>LA 13 a λc=>CA P 55 [c] λc=>AL 86 z86 λd=>ST 1 d c<|L1 d λc=>X P (do eqGuard .eql 86 (.tmp 14) (.const (.pointer none)) c (.pointer none);binOp .eql 86 c (.pointer none)) λc=>IF c (BD (cl z42) [] λa=>ST 3 b a<|LA 3 b λa=>K (.tuple #[a,(.bool false)])) (L1 d λc=>CA P 65 [c] λc=>AL 23 z23 λe=>ST 1 e c<|AL 42 z42 λc=>CUT [1,2,6,7] (λf=>L1 e λg=>LN g λh=>CUT [1,2,6,7] (λf=>LP [1,2,4,6,7,20,21,22] (λa b=>BO .lss (b 22) (b 21) λc=>IF c (CUT [1,2,4,6,7,20,21,22] (λa=>CUT [1,2,4,6,7,20,21,22] (λa=>zI 1 (b 20) (b 22) λc=>FO 0 (b 7) λd=>L1 d λe=>L1 (b 4) λf=>zN 13 f λg=>L1 g λh=>L1 (b 4) λi=>zN 13 i λj=>L1 j λk=>ALL [X P (Instr.lookup 73 h c false) λl=>FD false 4 1 l λl=>AND (L1 d λa=>EV a e)<|AND (L1 (b 4) λa=>EV a i)<|AND (L1 j λa=>EV a k)<|ALL [CV P (b 6) [l] λf=>AND (L1 d λa=>EV a e)<|AND (L1 (b 4) λa=>EV a i)<|AND (L1 j λa=>EV a k)<|X P (Instr.lookup 73 k c false) λg=>FD false 5 1 g λg=>AND (L1 d λa=>EV a e)<|CA P 67 [g] λg=>BD (cl z94) [(0,1,f),(1,1,g)] λf=>AND (L1 d λa=>EV a e)<|BS 94 1 (ZR 1 z94) [(0,2,f)] λf=>AND (L1 d λa=>EV a e)<|AP 94 2 48 (cl z94) e f λf=>zS 0 (b 7) f<|a [(b 1),(b 2),(b 4),(b 6),(b 7),(b 20),(b 21),(b 22)],
 X P (Instr.lookup 73 k c false) λc=>FD false 5 1 c λc=>AND (L1 d λa=>EV a e)<|CV P (b 6) [l] λf=>AND (L1 d λa=>EV a e)<|CA P 67 [c] λc=>BD (cl z94) [(0,1,f),(1,1,c)] λc=>AND (L1 d λa=>EV a e)<|BS 94 1 (ZR 1 z94) [(0,2,c)] λc=>AND (L1 d λa=>EV a e)<|AP 94 2 48 (cl z94) e c λc=>zS 0 (b 7) c<|a [(b 1),(b 2),(b 4),(b 6),(b 7),(b 20),(b 21),(b 22)]],
 X P (Instr.lookup 73 k c false) λi=>FD false 5 1 i λi=>AND (L1 d λa=>EV a e)<|AND (L1 (b 4) λa=>EV a f)<|AND (L1 g λa=>EV a h)<|X P (Instr.lookup 73 h c false) λc=>FD false 4 1 c λc=>AND (L1 d λa=>EV a e)<|CV P (b 6) [c] λc=>AND (L1 d λa=>EV a e)<|CA P 67 [i] λf=>BD (cl z94) [(0,1,c),(1,1,f)] λc=>AND (L1 d λa=>EV a e)<|BS 94 1 (ZR 1 z94) [(0,2,c)] λc=>AND (L1 d λa=>EV a e)<|AP 94 2 48 (cl z94) e c λc=>zS 0 (b 7) c<|a [(b 1),(b 2),(b 4),(b 6),(b 7),(b 20),(b 21),(b 22)]]) λb=>a [(b 1),(b 2),(b 4),(b 6),(b 7),(b 20),(b 21),(b 22)]) λb=>BO .add (b 22) (I 1) λc=>a [(b 1),(b 2),(b 4),(b 6),(b 7),(b 20),(b 21),c]) (f [(b 1),(b 2),(b 6),(b 7)])) [a,b,d,(.func (.func 66) #[] #[e,d]),c,g,h,(I 0)]) λa=>f [(a 1),(a 2),(a 6),(a 7)]) λa=>CUT [1,2,6,7] (λb=>zL 8 (a 1) λc=>LN c λd=>CUT [1,2,6,7] (λb=>LP [1,2,6,7,51,52,53] (λa c=>BO .lss (c 53) (c 52) λd=>IF d (IA 4 (c 51) (c 53) λb=>LA 4 b λb=>AL 83 z83 λd=>ST 4 d b<|FO 1 (c 7) λb=>L1 b λe=>zL 0 d λd=>CV P (c 6) [d] λd=>AND (L1 b λa=>EV a e)<|BS 23 1 (ZR 1 z23) [(0,1,d)] λd=>AND (L1 b λa=>EV a e)<|AP 23 1 24 (cl z23) e d λb=>zS 1 (c 7) b<|BO .add (c 53) (I 1) λb=>a [(c 1),(c 2),(c 6),(c 7),(c 51),(c 52),b]) (b [(c 1),(c 2),(c 6),(c 7)])) [(a 1),(a 2),(a 6),(a 7),c,d,(I 0)]) λa=>b [(a 1),(a 2),(a 6),(a 7)]) λa=>zL 10 (a 1) λb=>CV P (a 6) [b] λb=>zS 2 (a 7) b<|LA 3 (a 7) λb=>ST 3 (a 2) b<|LA 3 (a 2) λa=>K (.tuple #[a,(.bool true)]))
theorem LV {a0:Value}:zG GJ [a0] (Fx a0):=zG.mk { at_:=[(8,[1,2,6,7]),(10,[1,2,6,7]),(11,[1,2,4,6,7,20,21,22]),(14,[1,2,4,6,7,20,21,22]),(15,[1,2,4,6,7,20,21,22]),(17,[1,2,6,7]),(19,[1,2,6,7]),(20,[1,2,6,7,51,52,53])] } func23 (by kernel_rfl) λ_=>by kernel_rfl
def I3 (a0:Value) (K:Value→M):M:=
 AL 28 a0 λa=>LA 13 a λa=>CA P 55 [a] λa=>X P (do eqGuard .eql 86 (.tmp 7) (.const (.pointer none)) a (.pointer none);binOp .eql 86 a (.pointer none)) λb=>IF b (K (.tuple #[(.slice none 0 0),(.bool false)])) (CA P 65 [a] λa=>K (.tuple #[a,(.bool true)]))
theorem Nt {a0:Value}:zG Hm [a0] (I3 a0):=zG.mk {} func30 (by kernel_rfl) λ_=>by kernel_rfl
def JC (a0:Value) (K:Value→M):M:=
 AL 28 a0 λa=>CUT [1,20,24] (λb=>zL 0 a λc=>CA P 81 [c] λc=>NT c λc=>GT c false (zL 1 a λd=>CA P 82 [d] λd=>NT d λd=>b [a,c,d]) (b [a,c,U])) λa=>CUT [1,26,34] (λb=>zP (a 20) (a 24) λc=>GT c false (zL 1 (a 1) λd=>LN d λd=>BO .mul d (I 16) λd=>zL 0 (a 1) λe=>LN e λe=>BO .neq d e λd=>b [(a 1),c,d]) (b [(a 1),c,U])) λa=>CUT [1,36,43] (λb=>zP (a 26) (a 34) λc=>GT c false (zL 2 (a 1) λd=>LN d λd=>zL 0 (a 1) λe=>LN e λe=>BO .neq d e λd=>b [(a 1),c,d]) (b [(a 1),c,U])) λa=>zP (a 36) (a 43) λb=>IF b (K (.bool false)) (CUT [1,48,51] (λb=>zL 3 (a 1) λc=>BO .lss c (I 0) λc=>GT c false (zL 3 (a 1) λd=>BO .gtr d (I 3) λd=>b [(a 1),c,d]) (b [(a 1),c,U])) λa=>CUT [1,53,57] (λb=>zP (a 48) (a 51) λc=>GT c false (zL 8 (a 1) λd=>LN d λd=>BO .lss d (I 1) λd=>b [(a 1),c,d]) (b [(a 1),c,U])) λa=>CUT [1,59,63] (λb=>zP (a 53) (a 57) λc=>GT c false (zL 8 (a 1) λd=>LN d λd=>BO .gtr d (I 3) λd=>b [(a 1),c,d]) (b [(a 1),c,U])) λa=>zP (a 59) (a 63) λb=>IF b (K (.bool false)) (LA 13 (a 1) λb=>CA P 51 [b] λb=>EX 0 b λc=>EX 1 b λb=>NT b λb=>IF b (K (.bool false)) (CUT [1,3] (λb=>CUT [1,3] (λb=>LP [1,3,5] (λa c=>LN (c 3) λd=>BO .lss (c 5) d λd=>IF d (IA 6 (c 3) (c 5) λb=>zL 1 b λb=>CA P 53 [(c 3),b] λb=>CUT [1,3,5,6,112] (λa=>CUT [1,3,5,6,87,98] (λa=>BO .lss b (I 0) λd=>GT d false (IA 6 (c 3) b λe=>zL 1 e λe=>IA 6 (c 3) b λf=>zL 0 f λf=>BO .neq e f λe=>a [(c 1),(c 3),(c 5),b,d,e]) (a [(c 1),(c 3),(c 5),b,d,U])) λb=>CUT [1,3,5,6,100,105,110] (λa=>zP (b 87) (b 98) λc=>GT c false (IA 6 (b 3) (b 6) λd=>FO 2 d λd=>LA 2 d λd=>IA 6 (b 3) (b 5) λe=>FO 2 e λe=>LA 2 e λe=>a [(b 1),(b 3),(b 5),(b 6),c,d,e]) (a [(b 1),(b 3),(b 5),(b 6),c,U,U])) λb=>GT (b 100) false (X P (do eqGuard .neq 60 (.tmp 105) (.tmp 110) (b 105) (b 110);binOp .neq 60 (b 105) (b 110)) λc=>zP (b 100) c λc=>a [(b 1),(b 3),(b 5),(b 6),c]) (zP (b 100) U λc=>a [(b 1),(b 3),(b 5),(b 6),c])) λb=>IF (b 112) (K (.bool false)) (CUT [1,3,5,143] (λa=>CUT [1,3,5,6,116,117,118,123] (λa=>BO .neq (b 6) (b 5) λc=>GT c true (FO 1 (b 1) λd=>L1 d λe=>IA 6 (b 3) (b 5) λf=>zL 0 f λf=>a [(b 1),(b 3),(b 5),(b 6),c,d,e,f]) (a [(b 1),(b 3),(b 5),(b 6),c,U,U,U])) λb=>GT (b 116) true (CA P 54 [(b 123)] λc=>CUT [1,3,5,116,117,118,129,130,131,136] (λa=>GT (b 116) true (IA 5 (b 118) c λc=>zL 0 c λc=>BO .neq c (I 4) λc=>GT c false (FO 1 (b 1) λd=>L1 d λe=>IA 6 (b 3) (b 6) λf=>zL 0 f λf=>a [(b 1),(b 3),(b 5),(b 116),(b 117),(b 118),c,d,e,f]) (a [(b 1),(b 3),(b 5),(b 116),(b 117),(b 118),c,U,U,U])) (a [(b 1),(b 3),(b 5),(b 116),(b 117),(b 118),U,U,U,U])) λb=>AND (GT (b 116) true (L1 (b 117) λa=>EV a (b 118)) (EV U (b 118)))<|GT (b 129) false (CA P 54 [(b 136)] λc=>CUT [1,3,5,116,129,130,131,141] (λa=>GT (b 129) false (IA 5 (b 131) c λc=>zL 0 c λc=>BO .eql c (I 4) λc=>a [(b 1),(b 3),(b 5),(b 116),(b 129),(b 130),(b 131),c]) (a [(b 1),(b 3),(b 5),(b 116),(b 129),(b 130),(b 131),U])) λb=>CUT [1,3,5,116,129,130,131,142] (λa=>GT (b 116) true (zP (b 129) (b 141) λc=>a [(b 1),(b 3),(b 5),(b 116),(b 129),(b 130),(b 131),c]) (a [(b 1),(b 3),(b 5),(b 116),(b 129),(b 130),(b 131),U])) λb=>zA (b 116) (b 142) λc=>AND (GT (b 129) false (L1 (b 130) λa=>EV a (b 131)) (EV U (b 131)))<|a [(b 1),(b 3),(b 5),c]) (CUT [1,3,5,116,129,130,131,141] (λa=>GT (b 129) false (IA 5 (b 131) U λc=>zL 0 c λc=>BO .eql c (I 4) λc=>a [(b 1),(b 3),(b 5),(b 116),(b 129),(b 130),(b 131),c]) (a [(b 1),(b 3),(b 5),(b 116),(b 129),(b 130),(b 131),U])) λb=>CUT [1,3,5,116,129,130,131,142] (λa=>GT (b 116) true (zP (b 129) (b 141) λc=>a [(b 1),(b 3),(b 5),(b 116),(b 129),(b 130),(b 131),c]) (a [(b 1),(b 3),(b 5),(b 116),(b 129),(b 130),(b 131),U])) λb=>zA (b 116) (b 142) λc=>AND (GT (b 129) false (L1 (b 130) λa=>EV a (b 131)) (EV U (b 131)))<|a [(b 1),(b 3),(b 5),c])) (CUT [1,3,5,116,117,118,129,130,131,136] (λa=>GT (b 116) true (IA 5 (b 118) U λc=>zL 0 c λc=>BO .neq c (I 4) λc=>GT c false (FO 1 (b 1) λd=>L1 d λe=>IA 6 (b 3) (b 6) λf=>zL 0 f λf=>a [(b 1),(b 3),(b 5),(b 116),(b 117),(b 118),c,d,e,f]) (a [(b 1),(b 3),(b 5),(b 116),(b 117),(b 118),c,U,U,U])) (a [(b 1),(b 3),(b 5),(b 116),(b 117),(b 118),U,U,U,U])) λb=>AND (GT (b 116) true (L1 (b 117) λa=>EV a (b 118)) (EV U (b 118)))<|GT (b 129) false (CA P 54 [(b 136)] λc=>CUT [1,3,5,116,129,130,131,141] (λa=>GT (b 129) false (IA 5 (b 131) c λc=>zL 0 c λc=>BO .eql c (I 4) λc=>a [(b 1),(b 3),(b 5),(b 116),(b 129),(b 130),(b 131),c]) (a [(b 1),(b 3),(b 5),(b 116),(b 129),(b 130),(b 131),U])) λb=>CUT [1,3,5,116,129,130,131,142] (λa=>GT (b 116) true (zP (b 129) (b 141) λc=>a [(b 1),(b 3),(b 5),(b 116),(b 129),(b 130),(b 131),c]) (a [(b 1),(b 3),(b 5),(b 116),(b 129),(b 130),(b 131),U])) λb=>zA (b 116) (b 142) λc=>AND (GT (b 129) false (L1 (b 130) λa=>EV a (b 131)) (EV U (b 131)))<|a [(b 1),(b 3),(b 5),c]) (CUT [1,3,5,116,129,130,131,141] (λa=>GT (b 129) false (IA 5 (b 131) U λc=>zL 0 c λc=>BO .eql c (I 4) λc=>a [(b 1),(b 3),(b 5),(b 116),(b 129),(b 130),(b 131),c]) (a [(b 1),(b 3),(b 5),(b 116),(b 129),(b 130),(b 131),U])) λb=>CUT [1,3,5,116,129,130,131,142] (λa=>GT (b 116) true (zP (b 129) (b 141) λc=>a [(b 1),(b 3),(b 5),(b 116),(b 129),(b 130),(b 131),c]) (a [(b 1),(b 3),(b 5),(b 116),(b 129),(b 130),(b 131),U])) λb=>zA (b 116) (b 142) λc=>AND (GT (b 129) false (L1 (b 130) λa=>EV a (b 131)) (EV U (b 131)))<|a [(b 1),(b 3),(b 5),c]))) λb=>IF (b 143) (K (.bool false)) (BO .add (b 5) (I 1) λc=>a [(b 1),(b 3),c]))) (b [(c 1),(c 3)])) [(a 1),c,(I 0)]) λa=>b [(a 1),(a 3)]) λa=>CUT [1,3,7] (λb=>CUT [1,3,7] (λb=>LP [1,3,7,8] (λa c=>zL 8 (c 1) λd=>LN d λd=>BO .lss (c 8) d λd=>IF d (CUT [1,3,7,8] (λa=>CUT [1,3,7,8] (λa=>zL 8 (c 1) λb=>IA 4 b (c 8) λb=>LA 4 b λb=>AL 83 z83 λd=>ST 4 d b<|CUT [1,3,7,8,9,160,163] (λa=>zL 0 d λb=>LN b λb=>BO .gtr b (I 8) λb=>GT b false (zL 3 d λe=>BO .lss e (I 0) λe=>a [(c 1),(c 3),(c 7),(c 8),d,b,e]) (a [(c 1),(c 3),(c 7),(c 8),d,b,U])) λb=>CUT [1,3,7,8,9,165,168] (λa=>zP (b 160) (b 163) λc=>GT c false (zL 3 (b 9) λd=>BO .gtr d (I 2) λd=>a [(b 1),(b 3),(b 7),(b 8),(b 9),c,d]) (a [(b 1),(b 3),(b 7),(b 8),(b 9),c,U])) λb=>zP (b 165) (b 168) λc=>IF c (K (.bool false)) (CUT [1,3,7,8] (λa=>LP [1,3,7,8,9,10] (λb c=>zL 0 (c 9) λd=>LN d λd=>BO .lss (c 10) d λd=>IF d (CUT [1,3,7,8,9,10,183,191] (λa=>zL 0 (c 9) λb=>zI 1 b (c 10) λb=>BO .neq b (I 0) λb=>GT b true (zL 0 (c 9) λd=>zI 1 d (c 10) λd=>CA P 53 [(c 3),d] λd=>BO .lss d (I 0) λd=>a [(c 1),(c 3),(c 7),(c 8),(c 9),(c 10),b,d]) (a [(c 1),(c 3),(c 7),(c 8),(c 9),(c 10),b,U])) λa=>zA (a 183) (a 191) λc=>IF c (K (.bool false)) (zL 0 (a 9) λc=>zI 1 c (a 10) λc=>CA P 83 [(a 3),c] λc=>CA P 52 [(a 7),c] λc=>BO .add (a 10) (I 1) λd=>b [(a 1),(a 3),c,(a 8),(a 9),d])) (a [(c 1),(c 3),(c 7),(c 8)])) [(b 1),(b 3),(b 7),(b 8),(b 9),(I 0)]) λb=>a [(b 1),(b 3),(b 7),(b 8)])) λb=>a [(b 1),(b 3),(b 7),(b 8)]) λb=>BO .add (b 8) (I 1) λc=>a [(b 1),(b 3),(b 7),c]) (b [(c 1),(c 3),(c 7)])) [(a 1),(a 3),(.slice none 0 0),(I 0)]) λa=>b [(a 1),(a 3),(a 7)]) λa=>zL 10 (a 1) λb=>LN b λb=>BO .gtr b (I 8) λb=>IF b (K (.bool false)) (CUT [3,7] (λb=>CUT [3,7] (λb=>LP [1,3,7,11] (λa c=>zL 10 (c 1) λd=>LN d λd=>BO .lss (c 11) d λd=>IF d (zL 10 (c 1) λb=>zI 1 b (c 11) λb=>CA P 53 [(c 3),b] λb=>CUT [1,3,7,11,248] (λa=>CUT [1,3,7,11,12,222,233] (λa=>BO .lss b (I 0) λd=>GT d false (IA 6 (c 3) b λe=>zL 1 e λe=>IA 6 (c 3) b λf=>zL 0 f λf=>BO .neq e f λe=>a [(c 1),(c 3),(c 7),(c 11),b,d,e]) (a [(c 1),(c 3),(c 7),(c 11),b,d,U])) λb=>CUT [1,3,7,11,235,236,237,242] (λa=>zP (b 222) (b 233) λc=>GT c false (FO 1 (b 1) λd=>L1 d λe=>IA 6 (b 3) (b 12) λf=>zL 0 f λf=>a [(b 1),(b 3),(b 7),(b 11),c,d,e,f]) (a [(b 1),(b 3),(b 7),(b 11),c,U,U,U])) λb=>GT (b 235) false (CA P 54 [(b 242)] λc=>IA 5 (b 237) c λc=>zL 0 c λc=>BO .eql c (I 4) λc=>zP (b 235) c λc=>AND (L1 (b 236) λa=>EV a (b 237))<|a [(b 1),(b 3),(b 7),(b 11),c]) (zP (b 235) U λc=>AND (EV U (b 237))<|a [(b 1),(b 3),(b 7),(b 11),c])) λb=>IF (b 248) (K (.bool false)) (zL 10 (b 1) λc=>zI 1 c (b 11) λc=>CA P 52 [(b 7),c] λc=>BO .add (b 11) (I 1) λd=>a [(b 1),(b 3),c,d])) (b [(c 3),(c 7)])) [(a 1),(a 3),(a 7),(I 0)]) λa=>b [(a 3),(a 7)]) λa=>LP [3,7,13] (λa b=>LN (b 7) λc=>BO .lss (b 13) c λc=>IF c (CUT [3,7,13] (λa=>CUT [3,7,13] (λa=>zI 1 (b 7) (b 13) λc=>CA P 53 [(b 3),c] λc=>IA 6 (b 3) c λc=>LA 6 c λc=>AL 62 z62 λd=>ST 6 d c<|CUT [3,7,13] (λa=>LP [3,7,13,14,15] (λb c=>zL 4 (c 14) λd=>LN d λd=>BO .lss (c 15) d λd=>IF d (CUT [3,7,13,14,15,284,292] (λa=>zL 4 (c 14) λb=>zI 1 b (c 15) λb=>BO .neq b (I 0) λb=>GT b true (zL 4 (c 14) λd=>zI 1 d (c 15) λd=>CA P 53 [(c 3),d] λd=>BO .lss d (I 0) λd=>a [(c 3),(c 7),(c 13),(c 14),(c 15),b,d]) (a [(c 3),(c 7),(c 13),(c 14),(c 15),b,U])) λa=>zA (a 284) (a 292) λc=>IF c (K (.bool false)) (zL 4 (a 14) λc=>zI 1 c (a 15) λc=>CA P 83 [(a 3),c] λc=>CA P 52 [(a 7),c] λc=>BO .add (a 15) (I 1) λd=>b [(a 3),c,(a 13),(a 14),d])) (a [(c 3),(c 7),(c 13)])) [(b 3),(b 7),(b 13),d,(I 0)]) λb=>a [(b 3),(b 7),(b 13)]) λb=>a [(b 3),(b 7),(b 13)]) λb=>BO .add (b 13) (I 1) λc=>a [(b 3),(b 7),c]) (K (.bool true))) [(a 3),(a 7),(I 0)]))))
theorem Pm {a0:Value}:zG KB [a0] (JC a0):=zG.mk { at_:=[(11,[1,3]),(13,[1,3]),(14,[1,3,5]),(21,[1,3,5,6,112]),(23,[1,3,5,143]),(26,[1,3,7]),(28,[1,3,7]),(29,[1,3,7,8]),(32,[1,3,7,8]),(33,[1,3,7,8]),(39,[1,3,7,8]),(40,[1,3,7,8,9,10]),(51,[3,7]),(53,[3,7]),(54,[1,3,7,11]),(61,[1,3,7,11,248]),(66,[3,7,13]),(69,[3,7,13]),(70,[3,7,13]),(73,[3,7,13]),(74,[3,7,13,14,15])],rg:=[(1,[(9,[1,20,24]),(10,[1,26,34]),(9,[1,36,43])]),(3,[(7,[1,48,51]),(6,[1,53,57]),(6,[1,59,63])]),(21,[(8,[1,3,7,8,9,160,163]),(5,[1,3,7,8,9,165,168])]),(26,[(15,[1,3,7,8,9,10,183,191])]),(45,[(15,[3,7,13,14,15,284,292])])],dr:=[(12,[(0,[(14,[1,3,5,6,87,98]),(12,[1,3,5,6,100,105,110])])]),(14,[(0,[(11,[1,3,5,6,116,117,118,123])]),(2048,[(12,[1,3,5,116,117,118,129,130,131,136])]),(16779264,[(4,[1,3,5,116,129,130,131,141]),(1,[1,3,5,116,129,130,131,142])])]),(35,[(0,[(14,[1,3,7,11,12,222,233]),(9,[1,3,7,11,235,236,237,242])])])] } func34 (by kernel_rfl) λ_=>by kernel_rfl
end Go.Lf
end
section

end
section
namespace Sm
def idx {α:Type} (l:List α) (i:Int):Option α:=if 0≤i then l[i.toNat]? else none
def AW {α:Type} (l:List α) (i:Int) (v:α):List α:=l.set i.toNat v
def Ch (a b:Int):Option Int:=if -9223372036854775808≤a + b∧a + b < 9223372036854775808 then some (a + b) else none
structure Shp where
 refs:Int
 nums:Int
 deriving DecidableEq,Inhabited
structure Rg where
 kind:Int
 AT:Int
 top:Int
 Az:Int
 AQ:Int
 deriving DecidableEq,Inhabited
structure Op where
 kind:Int
 a:Int
 b:Int
 c:Int
 f:Int
 v:Int
 sh:Shp
 deriving DecidableEq,Inhabited
structure Thr where
 AD:List Int
 next:Int
 Au:Int
 pc:Int
 h:Int
 g:Int
 k:Int
 u:Int
 v:Int
 sh:Shp
 src:Int
 dst:Int
 size:Int
 i:Int
 word:Int
 ret:Int
 deriving DecidableEq,Inhabited
structure Col where
 pc:Int
 Ag:Bool
 want:Int
 AG:List Int
 r:Int
 p:Int
 i:Int
 sh:Shp
 v:Int
 f:Int
 src:Int
 dst:Int
 size:Int
 word:Int
 deriving DecidableEq,Inhabited
structure Ev where
 thread:Int
 next:Int
 ans:Int
 code:Int
 deriving DecidableEq,Inhabited
structure Cfg where
 AC:Int
 AA:Int
 AN:Int
 deriving DecidableEq,Inhabited
structure AZ where
 at_:Int
 moved:Int
 sh:Shp
 refs:List Int
 nums:List Int
 deriving DecidableEq,Inhabited
structure Th where
 AD:List Int
 next:Int
 busy:Bool
 Au:Int
 deriving DecidableEq,Inhabited
structure B7 where
 AB:List Int
 A0:List Rg
 AR:List Bool
 Aa:Int
 stop:Bool
 full:Bool
 Ag:Bool
 want:Int
 AA:List Th
 old:List Int
 AO:List Int
 B8:Int
 Bf:Int
 deriving DecidableEq,Inhabited
structure Sim where
 c:Cfg
 AX:List (List Op)
 AB:List Int
 A0:List Rg
 AR:List Bool
 Aa:Int
 stop:Bool
 full:Bool
 old:List Int
 AO:List Int
 B8:Int
 Bf:Int
 th:List Thr
 col:Col
 ev:List Ev
 used:Bool
 deriving DecidableEq,Inhabited
def BJ (n:Nat):Bool:=n % 16 == 0 && decide (2≤n / 16) && decide (n / 16≤12)
def AS (a:Int):Int:=if a < 0 then -1 else a / 16
def AM (r:Int):Int:=if r < 0∨12≤r then 0 else r * 16
def BG (s:Shp):Bool:=decide (0≤s.refs) && decide (s.refs≤4) && decide (0≤s.nums) && decide (s.nums≤4)
def Am (s:Shp):Int:=if BG s then 16 * s.refs + s.nums else -1
def Sy:Shp:=⟨0,0⟩
def AH (w:Int):Shp × Bool:=if 0≤w∧w / 16≤4∧w % 16≤4 then (⟨w / 16,w % 16⟩,true) else (Sy,false)
def AF (s:Shp):Int:=if BG s then 2 + s.refs + s.nums else 0
def fits (n:Nat) (a size:Int):Bool:=BJ n && decide (0 < size) && decide (size≤16) && decide (16≤a) && decide (a < n) && AS a == AS (a + size - 1)
def put (w:List Int) (a:Int) (l:List Int):List Int:=w.take a.toNat ++ l ++ w.drop (a.toNat + l.length)
def CF (w:List Int) (a:Int) (s:Shp):List Int × Bool:=
 if fits w.length a (AF s) then (put w a ([a,Am s] ++ List.replicate (s.refs.toNat + s.nums.toNat) 0),true) else ([],false)
def CD:AZ:=⟨0,0,Sy,[],[]⟩
def seg (w:List Int) (a n:Int):List Int:=(w.drop a.toNat).take n.toNat
def BB (w:List Int) (a:Int):AZ × Bool:=
 if fits w.length a 2 then
  let s:=AH (w.getD (a.toNat + 1) 0)
  if s.2 && fits w.length a (AF s.1) then (⟨a,w.getD a.toNat 0,s.1,seg w (a + 2) s.1.refs,seg w (a + 2 + s.1.refs) s.1.nums⟩,true) else (CD,false)
 else (CD,false)
def Ay (w:List Int):Nat→Int→Int→Option (List AZ)
 | 0,at_,top=>if at_ < top then none else some []
 | n + 1,at_,top=>if at_ < top then
   let t:=BB w at_
   if t.2 && decide (at_ + AF t.1.sh≤top) then (match Ay w n (at_ + AF t.1.sh) top with | some l=>some (t.1 :: l) | none=>none) else none
  else some []
def BL (w:List Int) (r top:Int):Option (List AZ):=
 if BJ w.length && decide (1≤r) && decide (r < w.length / 16) && decide (AM r≤top) && decide (top≤AM r + 16) then Ay w 16 (AM r) top else none
def DR (r:Int):Rg:=⟨1,-1,AM r,AM r,0⟩
def DY:Rg:=⟨0,-1,0,0,0⟩
def AU (n:Int):List Rg:=if n < 2∨12 < n then [] else DY :: (List.range (n.toNat - 1)).map λ(i:Nat)=>DR ((i:Int) + 1)
def Hj (r:Int) (x:Rg):Bool:=
 let b:=AM r
 decide (1≤x.kind) && decide (x.kind≤4) && decide (b≤x.top) && decide (x.top≤b + 16) && decide (b≤x.Az) && decide (x.Az≤x.top) && decide (0≤x.AQ) && decide (x.AQ≤x.top - b) &&
 (!(x.kind == 1) || x.top == b) && (x.kind == 2) == decide (0≤x.AT) && decide (-1≤x.AT) && decide (x.AT≤3)
def MC:Nat→List Rg→Bool
 | _,[]=>true
 | i,x :: r=>Hj i x && (decide (x.AT < 0) || r.all λy=>!(y.AT == x.AT)) && MC (i + 1) r
def BI (t:List Rg):Bool:=match t with
 | []=>false
 | e :: r=>decide (1≤r.length) && decide (r.length≤11) && e == DY && MC 1 r
def Bt (p:Rg→Bool):Nat→List Rg→Int
 | _,[]=>-1
 | i,x :: r=>if p x then i else Bt p (i + 1) r
def own (t:List Rg) (AT:Int):Int:=Bt (λx=>x.kind == 2 && x.AT == AT) 1 t.tail
def C5 (t:List Rg) (AT:Int):Option (List Rg × Int):=
 if BI t && decide (0≤AT) && decide (AT≤3) && decide (own t AT < 0) then
  let i:=Bt (λx=>x.kind == 1) 1 t.tail
  if i < 0 then none else some (AW t i ⟨2,AT,AM i,AM i,0⟩,i)
 else none
def CS (t:List Rg) (r:Int):Option (List Rg):=
 if BI t && decide (1≤r) then (match idx t r with
  | some x=>if x.kind == 2 then some (AW t r { x with kind:=3,AT:=-1 }) else none
  | none=>none) else none
def Bq (t:List Rg) (r:Int):Option (List Rg):=
 if BI t && decide (1≤r) then (match idx t r with
  | some x=>if x.kind == 1 then none else some (AW t r (DR r))
  | none=>none) else none
def BP (t:List Rg) (AT size:Int):Option (List Rg × Int):=
 if BI t && decide (0≤AT) && decide (AT≤3) && decide (1≤size) && decide (size≤16) then
  let r:=own t AT
  match (if 0≤r then idx t r else none) with
  | some x=>if x.top + size≤AM r + 16 then some (t,x.top) else
    (match C5 ((CS t r).getD []) AT with | some (u,n)=>some (u,AM n) | none=>none)
  | none=>(match C5 t AT with | some (u,n)=>some (u,AM n) | none=>none)
 else none
def Bo (held:List Int) (n:Int) (i:Nat) (x:Rg):Bool:=x.kind == 3 && x.top == x.Az && x.AQ == n && decide (x.AQ < x.top - AM i) && !(held.contains (i:Int))
def CM (held:List Int) (n:Int):Nat→List Rg→Int→Int × List Int
 | _,[],left=>(left,[])
 | i,x :: r,left=>if Bo held n i x && decide (n≤left) then (let q:=CM held n (i + 1) r (left - n);(q.1,(i:Int) :: q.2)) else CM held n (i + 1) r left
def Bj (t:List Rg) (held:List Int):Nat→Int→Int→List Int
 | 0,_,_=>[]
 | k + 1,n,left=>let q:=CM held n 1 t.tail left;q.2 ++ Bj t held k (n + 1) q.1
def Cl (held:List Int):Nat→List Rg→List Int
 | _,[]=>[]
 | i,x :: r=>if Bo held 0 i x then (i:Int) :: Cl held (i + 1) r else Cl held (i + 1) r
def Af (t:List Rg) (AN:Int) (held:List Int):List Int × List Int:=
 if BI t then (Bj t held 16 1 AN,Cl held 1 t.tail) else ([],[])
def RI (o:Op):Bool:=decide (1≤o.kind) && decide (o.kind≤11) && (!(o.kind == 1) || BG o.sh)
def Dn (k:Int):Bool:=k == 2 || k == 3 || k == 4 || k == 5 || k == 7
def hnd (n:Nat) (a:Int):Bool:=decide (0≤a) && decide (a < n)
def DF (o:Op) (AD:List Int) (none_:Int):Int:=
 let n:=AD.length
 let a:=o.kind == 1 || (if o.kind == 8 then decide (0 < n) else hnd n o.a)
 let b:=o.kind == 1 || o.kind == 8 || o.kind == 2 || o.kind == 4 || o.kind == 5 || o.kind == 9 || o.kind == 10 || o.kind == 11 || hnd n o.b
 let c:=!(o.kind == 7) && (decide (1≤o.kind) && decide (o.kind≤11)) || hnd n o.c
 if !a || !b || !c then 2
 else if (Dn o.kind || o.kind == 10 || o.kind == 11) && (idx AD o.a).getD 0 == none_ then 3
 else if (o.kind == 1 || o.kind == 2 || o.kind == 9) && n == 8 then 5
 else 0
def GQ (o:Op) (refs nums:Int):Bool:=if o.kind == 4 || o.kind == 5 then decide (0≤o.f) && decide (o.f < nums) else decide (0≤o.f) && decide (o.f < refs)
def DW (l:List Int) (a:Int):Nat→Option Nat
 | 0=>none
 | n + 1=>if l[n]? = some a then some n else DW l a n
def FF (AO:List Int) (kind a:Int):Option (List Int):=
 if kind == 10 then (if AO.length = 8 then none else some (AO ++ [a]))
 else match DW AO a AO.length with | some i=>some (AO.take i ++ AO.drop (i + 1)) | none=>none
def one (b:Bool):Int:=if b then 1 else 0
def thr0 (AD:List Int) (next Au:Int):Thr:=⟨AD,next,Au,0,0,0,0,0,0,Sy,0,0,0,0,0,0⟩
def CR (Ag:Bool) (want:Int):Col:=⟨0,Ag,want,[],0,0,0,Sy,0,0,0,0,0,0⟩
def Sim.read (S:Sim) (a:Int):Option (Int × Sim):=match idx S.AB a with | some v=>some (v,{ S with used:=true }) | none=>none
def Sim.write (S:Sim) (a v:Int):Option Sim:=if 0≤a∧a < S.AB.length then some { S with used:=true,AB:=AW S.AB a v } else none
def Sim.from_ (S:Sim) (a:Int):Option Bool:=if a = 0 then some false else match idx S.A0 (AS a) with | some x=>some (x.kind == 4) | none=>none
def Sim.setT (S:Sim) (i:Int) (t:Thr):Sim:={ S with th:=AW S.th i t }
def Sim.sz (S:Sim):Bool:=decide (S.ev.length < 1000000) && decide (S.old.length < 1000000) && decide (S.col.AG.length < 1000000) && decide (S.AO.length < 1000000) && S.th.all λt=>decide (t.AD.length < 1000000)
def Sim.event (S:Sim) (i ans code:Int):Option Sim:=if !S.sz then none else match idx S.th i with
 | some t=>(match Ch t.next 1 with
  | some n=>some { S with ev:=S.ev ++ [⟨i,t.next,ans,code⟩],th:=AW S.th i (thr0 t.AD n 0) }
  | none=>none)
 | none=>none
def Sim.push (S:Sim) (i a:Int):Option Sim:=if !S.sz then none else match idx S.th i with
 | some t=>(S.setT i { t with AD:=t.AD ++ [a] }).event i 0 0
 | none=>none
def Sim.back (S:Sim) (i:Int):Option Sim:=match idx S.th i with
 | some t=>some { S.setT i (thr0 t.AD t.next 1) with full:=true,stop:=true }
 | none=>none
def Sim.opOf (S:Sim) (i:Int) (t:Thr):Option Op:=match idx S.AX i with | some p=>idx p t.next | none=>none
def Sim.begin_ (S:Sim) (i:Int):Option Sim:=do
 let t ← idx S.th i
 let o ← S.opOf i t
 if !RI o then S.event i 0 1 else
 let code:=DF o t.AD 0
 if code≠0 then S.event i 0 code else
 if o.kind = 8 then (S.setT i { t with AD:=t.AD.take (t.AD.length - 1) }).event i 0 0 else
 if o.kind = 9 then S.push i (← idx t.AD o.a) else
 if o.kind = 1 then some (S.setT i { t with pc:=30 }) else
 let t:={ t with pc:=1,h:=← idx t.AD o.a }
 let t ← (if o.kind = 3∨o.kind = 6∨o.kind = 7 then (do some { t with g:=← idx t.AD o.b }) else some t)
 let t ← (if o.kind = 7 then (do some { t with k:=← idx t.AD o.c }) else some t)
 some (S.setT i t)
def Di (pc:Int):Int:=if pc = 11 then 12 else if pc = 15 then 16 else pc + 1
def Bl (t:Thr) (pc:Int):Int:=if pc = 1 then t.h else if pc = 2 then t.g else if pc = 3 then t.k else t.v
def Be (t:Thr) (pc a:Int):Thr:=
 { (if pc = 1 then { t with h:=a } else if pc = 2 then { t with g:=a } else if pc = 3 then { t with k:=a } else { t with v:=a }) with pc:=Di pc }
def Sim.resolve (S:Sim) (i:Int):Option Sim:=do
 let t ← idx S.th i
 if ¬ (0≤t.pc∧t.pc≤100) then none else
 let a:=Bl t t.pc
 if !(← S.from_ a) then some (S.setT i { t with pc:=Di t.pc }) else
 let (f,S) ← S.read a
 if f = a∧S.Aa = 2 then some (S.setT i { t with src:=a,ret:=t.pc,pc:=20 })
 else some (S.setT i (Be t t.pc f))
def Sim.top (S:Sim) (a size:Int):Option Sim:=match idx S.A0 (AS a) with
 | some x=>(match Ch a size with
  | some n=>some { S with A0:=AW S.A0 (AS a) { x with top:=n } }
  | none=>none)
 | none=>none
def Sim.copying (S:Sim) (i:Int):Option Sim:=do
 let t ← idx S.th i
 if t.pc = 20 then
  let (w,S) ← S.read (← Ch t.src 1)
  let size:=AF (AH w).1
  match BP S.A0 i size with
  | none=>S.back i
  | some (A0,dst)=>some ({ S with A0:=A0 }.setT i { t with size:=size,dst:=dst,i:=1,pc:=21 })
 else if t.pc = 21 then
  let (w,S) ← S.read (← Ch t.src t.i)
  some (S.setT i { t with word:=w,pc:=22 })
 else if t.pc = 22 then
  let S ← S.write (← Ch t.dst t.i) t.word
  let n ← Ch t.i 1
  some (S.setT i { t with i:=n,pc:=if n = t.size then 23 else 21 })
 else if t.pc = 23 then
  let S ← S.write t.dst t.dst
  some (S.setT i { t with pc:=24 })
 else if t.pc = 24 then
  if ¬ (0≤t.ret∧t.ret≤100) then none else
  let (w,S) ← S.read t.src
  if w = t.src then
   let S ← S.write t.src t.dst
   let S ← S.top t.dst t.size
   some (S.setT i (Be t t.ret t.dst))
  else some (S.setT i (Be t t.ret w))
 else some (S.setT i t)
def Sim.making (S:Sim) (i:Int):Option Sim:=do
 let t ← idx S.th i
 let o ← S.opOf i t
 if t.pc = 30 then
  let size:=AF o.sh
  match BP S.A0 i size with
  | none=>if t.Au = 2 then S.event i 0 6 else S.back i
  | some (A0,dst)=>some ({ S with A0:=A0 }.setT i { t with size:=size,dst:=dst,i:=2,pc:=31 })
 else if t.pc = 31 then
  let S ← S.write t.dst t.dst
  some (S.setT i { t with pc:=32 })
 else
  let (S,t) ← (if t.pc = 32 then (do some (← S.write (← Ch t.dst 1) (Am o.sh),t))
   else if t.pc = 33 then (do some (← S.write (← Ch t.dst t.i) 0,{ t with i:=← Ch t.i 1 })) else some (S,t))
  let t:={ t with pc:=33 }
  let S:=S.setT i t
  if t.i = t.size then (do (← S.top t.dst t.size).push i t.dst) else some S
def Sim.oldV (S:Sim) (v:Int):Option Sim:=if !S.sz then none else some (if S.Aa = 1∧v≠0 then { S with old:=S.old ++ [v] } else S)
def Sim.load (S:Sim) (i v:Int):Option Sim:=do
 let t ← idx S.th i
 if t.pc = 12∧v = t.u then S.push i t.v else
 if !(← S.from_ v) then S.push i v else
 some (S.setT i { t with u:=v,v:=v,pc:=11 })
def Sim.swap (S:Sim) (i v:Int):Option Sim:=do
 let t ← idx S.th i
 if t.pc = 16∧v = t.u then S.event i 0 0 else
 let t:={ t with u:=v }
 if ← S.from_ v then some (S.setT i { t with v:=v,pc:=15 }) else
 if v≠t.g then S.event i 0 0 else
 some ((← S.oldV v).setT i { t with pc:=14 })
def Sim.shape (S:Sim) (i:Int):Option Sim:=do
 let t ← idx S.th i
 if !S.sz then none else
 let o ← S.opOf i t
 if o.kind = 6 then S.event i (one (t.h == t.g)) 0 else
 if o.kind = 10∨o.kind = 11 then (match FF S.AO o.kind t.h with
  | none=>S.event i 0 7
  | some AO=>{ S with AO:=AO }.event i 0 0) else
 let (w,S) ← S.read (← Ch t.h 1)
 let sh:=(AH w).1
 if !GQ o sh.refs sh.nums then S.event i 0 4 else
 let pc:=if o.kind = 2 then 5 else if o.kind = 3 then (if S.Aa = 1 then 6 else 7) else if o.kind = 4 then 8 else if o.kind = 5 then 9 else if o.kind = 7 then 10 else t.pc
 some (S.setT i { t with sh:=sh,pc:=pc })
def Sim.field (S:Sim) (i:Int):Option Sim:=do
 let t ← idx S.th i
 let o ← S.opOf i t
 let h ← Ch t.h 2
 let ref ← Ch h o.f
 let num ← Ch (← Ch h t.sh.refs) o.f
 if t.pc = 5∨t.pc = 12 then (do let (v,S) ← S.read ref;S.load i v)
 else if t.pc = 6 then (do let (v,S) ← S.read ref;some ((← S.oldV v).setT i { t with pc:=7 }))
 else if t.pc = 7 then (do let S ← S.write ref t.g;S.event i 0 0)
 else if t.pc = 8 then (do let S ← S.write num o.v;S.event i 0 0)
 else if t.pc = 9 then (do let (v,S) ← S.read num;S.event i v 0)
 else if t.pc = 10 then (do let (v,S) ← S.read ref;S.swap i v)
 else if t.pc = 14 then (do
  let (v,S) ← S.read ref
  if v = t.u then (do let S ← S.write ref t.k;S.event i 1 0) else some (S.setT i { t with pc:=10 }))
 else if t.pc = 16 then (if t.v = t.g then some (S.setT i { t with pc:=14 }) else (do let (v,S) ← S.read ref;S.swap i v))
 else some S
def Sim.tstep (S:Sim) (i:Int):Option Sim:=do
 let t ← idx S.th i
 if t.pc≤3∨t.pc = 11∨t.pc = 15 then S.resolve i
 else if t.pc = 4 then S.shape i
 else if 30≤t.pc then S.making i
 else if 20≤t.pc then S.copying i
 else S.field i
def Sim.tloop:Nat→Sim→Int→Option Sim
 | 0,_,_=>none
 | n + 1,S,i=>do
  let t ← idx S.th i
  if S.used∨t.pc = 0 then some S else (do Sim.tloop n (← S.tstep i) i)
def Sim.thread (n:Nat) (S:Sim) (i:Int):Option Sim:=do
 let t ← idx S.th i
 if t.pc = 0 then
  (if S.stop then some S else do
   let p ← idx S.AX i
   if t.next < p.length then S.begin_ i else some S)
 else Sim.tloop n { S with used:=false } i
def Sim.setC (S:Sim) (c:Col):Sim:={ S with col:=c }
def Sim.mark (S:Sim):Option Sim:=
 if !S.sz then none else
 let x:=S.col
 if x.AG.length = 0 then
  match S.old with
  | []=>some { S with stop:=true,col:={ x with want:=2 } }
  | a :: l=>some { S with old:=l,col:={ x with AG:=[a] } }
 else do
  let a ← x.AG.getLast?
  let x:={ x with AG:=x.AG.dropLast }
  let row ← idx S.A0 (AS a)
  if ← (if a < row.Az then (do some (!(← idx S.AR a))) else some false) then
   let S:={ S with AR:=AW S.AR a true }
   let (w,S) ← S.read (← Ch a 1)
   let sh:=(AH w).1
   let AQ ← Ch row.AQ (AF sh)
   some { S with A0:=AW S.A0 (AS a) { row with AQ:=AQ },col:={ x with p:=a,i:=0,sh:=sh,pc:=if 0 < sh.refs then 2 else x.pc } }
  else some (S.setC x)
def Sim.look (S:Sim):Option Sim:=do
 if !S.sz then none else
 let x:=S.col
 let (v,S) ← S.read (← Ch (← Ch x.p 2) x.i)
 let i ← Ch x.i 1
 some (S.setC { x with AG:=if v≠0 then x.AG ++ [v] else x.AG,i:=i,pc:=if i = x.sh.refs then 1 else x.pc })
def Im (AR:List Bool) (row:Rg):Nat→Int→Option Int
 | 0,_=>none
 | n + 1,p=>if row.kind = 4∧p < row.top then (do if ← idx AR p then some p else Im AR row n (p + 1)) else some p
def Sim.walkOut (S:Sim):Nat→Int→Int→Option (Int × Int)
 | 0,_,_=>none
 | n + 1,r,p=>if r < S.A0.length then (do
   let row ← idx S.A0 r
   let p ← Im S.AR row 20 p
   if row.kind = 4∧p < row.top then some (r,p) else S.walkOut n (r + 1) ((r + 1) * 16))
  else some (r,p)
def Sim.walk (S:Sim):Option Sim:=do
 let x:=S.col
 let (r,p) ← S.walkOut (S.A0.length + 2) x.r x.p
 let x:={ x with r:=r,p:=p }
 if r = S.A0.length then some { S with stop:=true,col:={ x with want:=3 } } else
 let q ← Ch p 1
 let x:={ x with p:=q }
 let (w,S) ← S.read p
 some (S.setC (if w = p then { x with src:=p,pc:=20 } else x))
def Sim.carry (S:Sim):Option Sim:=do
 let x:=S.col
 if x.pc = 20 then
  let (w,S) ← S.read (← Ch x.src 1)
  let size:=AF (AH w).1
  match BP S.A0 S.th.length size with
  | none=>some { S with full:=true,stop:=true }
  | some (A0,dst)=>some { S with A0:=A0,col:={ x with size:=size,dst:=dst,i:=1,pc:=21 } }
 else if x.pc = 21 then
  let (w,S) ← S.read (← Ch x.src x.i)
  some (S.setC { x with word:=w,pc:=22 })
 else if x.pc = 22 then
  let S ← S.write (← Ch x.dst x.i) x.word
  let n ← Ch x.i 1
  some (S.setC { x with i:=n,pc:=if n = x.size then 23 else 21 })
 else if x.pc = 23 then
  let S ← S.write x.dst x.dst
  some (S.setC { x with pc:=24 })
 else if x.pc = 24 then
  let (w,S) ← S.read x.src
  let S ← (if w = x.src then (do (← S.write x.src x.dst).top x.dst x.size) else some S)
  some (S.setC { x with pc:=5 })
 else some S
def Fm (x:Col):Option Col:=do
 let i ← Ch x.i 1
 some { x with i:=i,pc:=if i = x.sh.refs then 6 else 7 }
def Sim.renewTo (S:Sim):Nat→Int→Int→Option (Int × Int)
 | 0,_,_=>none
 | n + 1,r,p=>if r < S.A0.length then (do
   let row ← idx S.A0 r
   if ← (if row.kind = 4 then some true else (do some (decide ((← Ch (AM r) row.AQ)≤p)))) then S.renewTo n (r + 1) ((r + 1) * 16) else some (r,p))
  else some (r,p)
def Sim.renew (S:Sim):Option Sim:=do
 let x:=S.col
 if x.pc = 6 then
  let (r,p) ← S.renewTo (S.A0.length + 2) x.r x.p
  let x:={ x with r:=r,p:=p }
  if r = S.A0.length then some { S with stop:=true,col:={ x with want:=0 } } else
  let (w,S) ← S.read (← Ch p 1)
  let sh:=(AH w).1
  let q ← Ch p (AF sh)
  let x:={ x with f:=p,sh:=sh,p:=q,i:=0 }
  let row ← idx S.A0 r
  let go ← (if 0 < sh.refs then (if row.Az≤p then some true else idx S.AR p) else some false)
  some (S.setC (if go then { x with pc:=7 } else x))
 else if x.pc = 7 then
  let (v,S) ← S.read (← Ch (← Ch x.f 2) x.i)
  let x:={ x with v:=v }
  if ← S.from_ v then some (S.setC { x with pc:=8 }) else some (S.setC (← Fm x))
 else if x.pc = 8 then
  let (w,S) ← S.read x.v
  let x:={ x with word:=w,pc:=9 }
  if w = x.v then some (S.setC (← Fm x)) else some (S.setC x)
 else if x.pc = 9 then
  let a ← Ch (← Ch x.f 2) x.i
  let (w,S) ← S.read a
  let S ← (if w = x.v then S.write a x.word else some S)
  some (S.setC (← Fm x))
 else some S
def Sim.work (S:Sim):Option Sim:=
 if S.Aa = 1∧S.col.pc = 1 then S.mark
 else if S.Aa = 1 then S.look
 else if S.Aa = 2∧S.col.pc = 5 then S.walk
 else if S.Aa = 2 then S.carry
 else S.renew
def Sim.cloop:Nat→Sim→Option Sim
 | 0,_=>none
 | n + 1,S=>if !S.used && !S.stop then (do Sim.cloop n (← S.work)) else some S
def Bg (w:List Int):Nat→List Rg→Option (List AZ)
 | _,[]=>some []
 | r,x :: l=>match BL w r x.top with
  | none=>none
  | some a=>match Bg w (r + 1) l with | none=>none | some b=>some (a ++ b)
def BE (s:B7):Option (List AZ):=Bg s.AB 1 s.A0.tail
def BW (l:List AZ) (a:Int):Option AZ:=l.find? λt=>t.at_ == a
def now (l:List AZ) (a:Int):Option Int:=if a = 0 then some 0 else (BW l a).map AZ.moved
def CQ (had:List Int) (a:Int):List Int:=if a = 0∨a∈had then had else had ++ [a]
def Ao (l:List AZ):List Int→List Int→Option (List Int)
 | [],acc=>some acc
 | x :: r,acc=>do Ao l r (CQ acc (← now l x))
def DU (l:List AZ):List Th→List Int→Option (List Int)
 | [],acc=>some acc
 | t :: r,acc=>do DU l r (← Ao l t.AD acc)
def BN (l:List AZ):Nat→Nat→List Int→Option (List Int)
 | 0,_,_=>none
 | n + 1,i,out=>match out[i]? with
  | none=>some out
  | some a=>do
   let t ← BW l a
   BN l n (i + 1) (← Ao l t.refs out)
def DE (s:B7) (l:List AZ):Option (List Int):=do
 let out ← DU l s.AA []
 BN l (l.length + 2) 0 (s.AO.foldl CQ out)
def DX (l:List Int) (x:Int):Nat→Nat
 | 0=>0
 | k + 1=>if x < l.getD k 0 then DX l x k else k + 1
def Fi (l:List Int) (x:Int):List Int:=let p:=DX l x l.length;l.take p ++ x :: l.drop p
def Ak (l:List Int):List Int:=l.foldl Fi []
def CB (AO:List Int) (r:Int):Bool:=AO.any λp=>AS p == r
def wr (w:List Int) (a v:Int):Option (List Int):=if 0≤a∧a < w.length then some (AW w a v) else none
def wrs:List Int→Int→List Int→Option (List Int)
 | w,_,[]=>some w
 | w,a,v :: l=>do wrs (← wr w a v) (a + 1) l
def stay (s:B7):List AZ→List Int→List Rg→Option (List Int × List Rg)
 | [],w,t=>some (w,t)
 | x :: l,w,t=>
  let r:=AS x.at_
  if CB s.AO r then (do
   let w ← wr w x.at_ x.at_
   let w ← wr w (x.at_ + 1) (Am x.sh)
   let w ← wrs w (x.at_ + 2 + x.refs.length) x.nums
   let row ← idx s.A0 r
   let _ ← idx t r
   stay s l w (AW t r ⟨3,-1,row.top,row.top,0⟩))
  else stay s l w t
def Gy (AO:List Int) (t:List Rg) (size:Int):Nat→Int→Option Int
 | 0,_=>none
 | n + 1,r=>if CB AO r then Gy AO t size n (r + 1) else (do
   let x ← idx t r
   if AM r + 16 < (← Ch x.top size) then Gy AO t size n (r + 1) else some r)
def slide (AO:List Int) (l:List AZ):List Int→List Rg→Int→List Int→Option (List Rg × List Int)
 | [],t,_,to=>some (t,to)
 | a :: rest,t,r,to=>do
  let x ← BW l a
  let size:=AF x.sh
  if CB AO (AS a) then slide AO l rest t r (to ++ [a]) else
  let r ← Gy AO t size (t.length + 2) r
  let row ← idx t r
  let top ← Ch row.top size
  slide AO l rest (AW t r { row with kind:=3,top:=top,Az:=top }) r (to ++ [row.top])
def Bi (l:List Int) (n:Int):Int:=if n∈l then (l.idxOf n:Nat) else -1
def Gu (l:List AZ) (AQ to:List Int):List Int→Int→List Int→Option (List Int)
 | w,_,[]=>some w
 | w,a,v :: r=>do
  let k:=Bi AQ (← now l v)
  let w ← (if 0≤k then (do wr w a (← idx to k)) else some w)
  Gu l AQ to w (a + 1) r
def GE (l:List AZ) (AQ to:List Int):List Int→List Int→List Int→Option (List Int)
 | a :: la,d :: ld,w=>do
  let t ← BW l a
  let w ← wr w d d
  let w ← wr w (d + 1) (Am t.sh)
  let w ← Gu l AQ to w (d + 2) t.refs
  let w ← wrs w (d + 2 + t.refs.length) t.nums
  GE l AQ to la ld w
 | _,_,w=>some w
def DA (l:List AZ) (AQ to:List Int):List Int→Option (List Int)
 | []=>some []
 | a :: r=>do
  let k:=Bi AQ (← now l a)
  let b ← (if k < 0 then some 0 else idx to k)
  some (b :: (← DA l AQ to r))
def Da (l:List AZ) (AQ to:List Int):List Th→Option (List Th)
 | []=>some []
 | t :: r=>do
  let AD ← DA l AQ to t.AD
  some (⟨AD,t.next,false,if t.Au = 1 then 2 else t.Au⟩ :: (← Da l AQ to r))
def HA (s:B7):Option B7:=do
 let l:=(BE s).getD []
 let AQ:=Ak (← DE s l)
 let (AB,A0) ← stay s l (List.replicate s.AB.length 0) (AU s.A0.length)
 let (A0,to) ← slide s.AO l AQ A0 1 []
 let AB ← GE l AQ to AQ to AB
 let ths ← Da l AQ to s.AA
 let Bf ← Ch s.Bf 1
 some ⟨AB,A0,List.replicate AB.length false,0,false,false,s.Ag,0,ths,[],s.AO,s.B8,Bf⟩
def Sim.view (S:Sim):B7:=
 ⟨S.AB,S.A0,S.AR,S.Aa,S.stop,S.full,S.col.Ag,S.col.want,S.th.map λt=>⟨t.AD,t.next,t.pc != 0,t.Au⟩,S.old,S.AO,S.B8,S.Bf⟩
def Sim.calm (S:Sim):Bool:=S.th.all λt=>t.pc == 0
def rows (f:Int→Rg→Rg) (t:List Rg):List Rg:=t.mapIdx λi x=>if i = 0 then x else f i x
def Sim.idle (S:Sim):Option Sim:=do
 let n ← Ch S.B8 1
 some { S with AR:=List.replicate S.AR.length false,Aa:=0,col:=CR S.col.Ag 0,B8:=n,A0:=rows (λ_ x=>{ x with AQ:=0 }) S.A0 }
def Sim.snapshot (S:Sim):Sim:=
 { S with AR:=List.replicate S.AR.length false,old:=[],Aa:=1,col:={ CR S.col.Ag S.col.want with pc:=1,AG:=(S.th.flatMap λt=>t.AD.filter (·≠0)) ++ S.AO },A0:=rows (λ_ x=>{ x with Az:=x.top,AQ:=0 }) S.A0 }
def Sim.drain:Nat→Sim→Option Sim
 | 0,_=>none
 | n + 1,S=>if !S.sz then none else if 0 < S.col.AG.length∨0 < S.old.length∨S.col.pc = 2 then (do
   Sim.drain n (← if S.col.pc = 2 then S.look else S.mark))
  else some S
def Kg:List Int→List Rg→Option (List Rg)
 | [],t=>some t
 | r :: l,t=>do
  let x ← idx t r
  Kg l (AW t r { x with kind:=4 })
def Sim.choose (n:Nat) (S:Sim):Option Sim:=do
 let S ← Sim.drain n S
 let q:=Af S.A0 S.c.AN (S.AO.map AS)
 let t:=q.2.foldl (λt r=>(Bq t r).getD []) S.A0
 let t ← Kg q.1 t
 let S:={ S with stop:=false,A0:=t }
 if q.1.length = 0 then S.idle else
 some { S with Aa:=2,col:={ CR S.col.Ag S.col.want with pc:=5,r:=1,p:=16 } }
def Sim.rootsF (S:Sim):List Int→Option (List Int)
 | []=>some []
 | a :: r=>do
  let b ← (if ← S.from_ a then idx S.AB a else some a)
  some (b :: (← S.rootsF r))
def Sim.thsF (S:Sim):List Thr→Option (List Thr)
 | []=>some []
 | t :: r=>do
  let AD ← S.rootsF t.AD
  some ({ t with AD:=AD } :: (← S.thsF r))
def CT:Nat→Nat→List Rg→List Rg
 | 0,_,t=>t
 | n + 1,i,t=>match t[i]? with
  | none=>t
  | some x=>CT n (i + 1) (if x.kind == 4 then (Bq t i).getD [] else t)
def Sim.finish (S:Sim):Option Sim:=do
 let th ← S.thsF S.th
 Sim.idle { S with th:=th,A0:=CT S.A0.length 1 S.A0 }
def Sim.update (S:Sim):Option Sim:=do
 let _ ← (if S.A0.all (λx=>decide (-1000≤x.top) && decide (x.top≤1000)) then some () else none)
 some { S with Aa:=3,A0:=rows (λi x=>{ x with AQ:=x.top - AM i }) S.A0,col:={ CR S.col.Ag S.col.want with pc:=6,r:=1,p:=16 } }
def Sim.pause (n:Nat) (S:Sim):Option Sim:=
 if !S.sz then none else
 if S.full then do
  let s ← HA S.view
  some { S with AB:=s.AB,A0:=s.A0,AR:=s.AR,Aa:=s.Aa,stop:=s.stop,full:=s.full,old:=s.old,AO:=s.AO,B8:=s.B8,Bf:=s.Bf,col:=CR s.Ag 0,th:=s.AA.map λt=>thr0 t.AD t.next t.Au }
 else
  let S:={ S with stop:=false }
  if S.col.want = 1 then some S.snapshot
  else if S.col.want = 2 then S.choose n
  else if S.col.want = 3 then S.update
  else S.finish
def Sim.collector (n:Nat) (S:Sim):Option Sim:=
 if S.stop then (if S.calm then S.pause n else some S)
 else if S.Aa = 0 then (if S.col.Ag then some { S with stop:=true,col:={ S.col with Ag:=false,want:=1 } } else some S)
 else Sim.cloop n { S with used:=false }
def Sim.fuel (S:Sim):Nat:=100 * (S.AB.length + S.old.length + S.col.AG.length) + 1000
def Sim.pick (S:Sim) (p:Int):Option Sim:=
 if 0≤p∧p < S.th.length then S.thread S.fuel p
 else if p = S.th.length then S.collector S.fuel
 else if p = S.th.length + 1 then some { S with col:={ S.col with Ag:=true } }
 else some S
def Sim.picks:List Int→Sim→Option Sim
 | [],S=>some S
 | p :: l,S=>do Sim.picks l (← S.pick p)
def BY (c:Cfg):Bool:=decide (3≤c.AC) && decide (c.AC≤12) && decide (1≤c.AA) && decide (c.AA≤3) && decide (0≤c.AN) && decide (c.AN≤100)
def Bp:Shp:=⟨4,2⟩
def start (c:Cfg) (AX:List (List Op)):Sim:=
 ⟨c,AX,(CF (List.replicate (c.AC.toNat * 16) 0) 16 Bp).1,AW (AU c.AC) 1 ⟨3,-1,24,24,0⟩,List.replicate (c.AC.toNat * 16) false,
  0,false,false,[],[],0,0,List.replicate c.AA.toNat (thr0 [16] 0 0),CR false 0,[],false⟩
def Ca (c:Cfg) (AX:List (List Op)) (picks:List Int):Bool:=
 BY c && decide ((AX.length:Int) = c.AA) && decide (picks.length≤4000) && AX.all λp=>decide (p.length≤40)
end Sm
end
