/- A part of the proof of the given row: the walk of the law and of all that it calls. Conditions: none. -/
import Derived.Test.YtlagojobcbkpdaaGreatBC
set_option linter.unusedVariables false
set_option linter.unusedSimpArgs false
section
namespace Go.Lf
open Go Go.Proofs Go.Proofs.Tryz
def Pq (a0:Value) (K:Value→M):M:=
 AL 183 a0 λa=>CUT [1,6,9] (λb=>zL 0 a λc=>BO .geq c (I 1) λc=>GT c true (zL 0 a λd=>BO .leq d (I 11) λd=>b [a,c,d]) (b [a,c,U])) λa=>CUT [11,19] (λb=>zA (a 6) (a 9) λc=>GT c true (zL 0 (a 1) λd=>BO .neq d (I 1) λd=>GT d false (FO 6 (a 1) λa=>LA 2 a λa=>CA P 110 [a] λa=>zP d a λa=>b [c,a]) (zP d U λa=>b [c,a])) (b [c,U])) λa=>zA (a 11) (a 19) λa=>K a
theorem U0 {a0:Value}:zG PZ [a0] (Pq a0):=zG.mk { rg:=[(1,[(7,[1,6,9]),(10,[11,19])])] } func233 (by kernel_rfl) λ_=>by kernel_rfl
def Jn (a0 a1 a2 a3:Value) (K:Value→M):M:=
 zM 17 a0 λa=>IA 17 a a1 λa=>LA 17 a λa=>AL 187 EM λb=>ST 17 b a<|zN 33 a0 λa=>L1 a λc=>zL 1 b λd=>BD (cl WP) [(0,1,a1),(1,1,d),(2,1,a2),(3,1,a3)] λd=>BS 142 1 (ZR 1 WP) [(0,4,d)] λd=>AND (L1 a λa=>EV a c)<|AP 142 4 32 (cl WP) c d λa=>NC a0 λc=>zS 33 c a<|zM 17 a0 λa=>zL 0 b λc=>zL 1 b λb=>BO .add b (I 1) λb=>BD (cl EM) [(0,1,c),(1,1,b)] λb=>IA 17 a a1 λa=>ST 17 a b<|K (.tuple #[])
theorem OX {a0 a1 a2 a3:Value}:zG JF [a0,a1,a2,a3] (Jn a0 a1 a2 a3):=zG.mk {} func234 (by kernel_rfl) λ_=>by kernel_rfl
def JP (a0 a1 a2:Value) (K:Value→M):M:=
 AL 183 a0 λa=>LN a1 λb=>CUT [1,2,3,7,16,20] (λc=>zL 1 a λd=>BO .geq d (I 0) λd=>GT d true (zL 1 a λe=>BO .lss e b λe=>c [a1,a2,a,b,d,e]) (c [a1,a2,a,b,d,U])) λa=>zA (a 16) (a 20) λb=>CUT [1,2,3,7,8,25,29] (λc=>zL 2 (a 3) λd=>BO .geq d (I 0) λd=>GT d true (zL 2 (a 3) λe=>BO .lss e (a 7) λe=>c [(a 1),(a 2),(a 3),(a 7),b,d,e]) (c [(a 1),(a 2),(a 3),(a 7),b,d,U])) λa=>zA (a 25) (a 29) λb=>CUT [1,2,3,7,8,9,34,38] (λc=>zL 3 (a 3) λd=>BO .geq d (I 0) λd=>GT d true (zL 3 (a 3) λe=>BO .lss e (a 7) λe=>c [(a 1),(a 2),(a 3),(a 7),(a 8),b,d,e]) (c [(a 1),(a 2),(a 3),(a 7),(a 8),b,d,U])) λa=>zA (a 34) (a 38) λb=>CUT [1,2,3,7,8,9,10] (λc=>zL 0 (a 3) λd=>CUT [1,2,3,7,8,9,10] (λc=>BO .eql d (I 1) λe=>IF e (c [(a 1),(a 2),(a 3),(a 7),(.bool true),(.bool true),(.bool true)]) (BO .eql d (I 8) λe=>IF e (BO .gtr (a 7) (I 0) λb=>c [(a 1),(a 2),(a 3),(a 7),b,(.bool true),(.bool true)]) (CUT [1,2,3,7,8,9,10,41,48] (λc=>BO .eql d (I 2) λe=>IF e (c [(a 1),(a 2),(a 3),(a 7),(a 8),(a 9),b,d,e]) (BO .eql d (I 4) λe=>IF e (c [(a 1),(a 2),(a 3),(a 7),(a 8),(a 9),b,d,e]) (BO .eql d (I 5) λe=>IF e (c [(a 1),(a 2),(a 3),(a 7),(a 8),(a 9),b,d,e]) (BO .eql d (I 9) λe=>IF e (c [(a 1),(a 2),(a 3),(a 7),(a 8),(a 9),b,d,e]) (BO .eql d (I 10) λe=>IF e (c [(a 1),(a 2),(a 3),(a 7),(a 8),(a 9),b,d,e]) (BO .eql d (I 11) λe=>c [(a 1),(a 2),(a 3),(a 7),(a 8),(a 9),b,d,e])))))) λa=>IF (a 48) (c [(a 1),(a 2),(a 3),(a 7),(a 8),(.bool true),(.bool true)]) (CUT [1,2,3,7,8,9,10,55] (λb=>BO .eql (a 41) (I 3) λc=>IF c (b [(a 1),(a 2),(a 3),(a 7),(a 8),(a 9),(a 10),c]) (BO .eql (a 41) (I 6) λc=>b [(a 1),(a 2),(a 3),(a 7),(a 8),(a 9),(a 10),c])) λa=>IF (a 55) (c [(a 1),(a 2),(a 3),(a 7),(a 8),(a 9),(.bool true)]) (c [(a 1),(a 2),(a 3),(a 7),(a 8),(a 9),(a 10)]))))) λa=>c [(a 1),(a 2),(a 3),(a 7),(a 8),(a 9),(a 10)]) λa=>CUT [1,2,3,7,10,60,62] (λb=>NT (a 8) λc=>GT c false (NT (a 9) λd=>b [(a 1),(a 2),(a 3),(a 7),(a 10),c,d]) (b [(a 1),(a 2),(a 3),(a 7),(a 10),c,U])) λa=>CUT [1,2,3,7,64,66] (λb=>zP (a 60) (a 62) λc=>GT c false (NT (a 10) λd=>b [(a 1),(a 2),(a 3),(a 7),c,d]) (b [(a 1),(a 2),(a 3),(a 7),c,U])) λa=>zP (a 64) (a 66) λb=>IF b (K (I 2)) (CUT [1,2,3,7,71,74] (λb=>zL 0 (a 3) λc=>CA P 289 [c] λc=>GT c false (zL 0 (a 3) λd=>BO .eql d (I 10) λd=>b [(a 1),(a 2),(a 3),(a 7),c,d]) (b [(a 1),(a 2),(a 3),(a 7),c,U])) λa=>CUT [1,2,3,7,76,79] (λb=>zP (a 71) (a 74) λc=>GT c false (zL 0 (a 3) λd=>BO .eql d (I 11) λd=>b [(a 1),(a 2),(a 3),(a 7),c,d]) (b [(a 1),(a 2),(a 3),(a 7),c,U])) λa=>CUT [3,7,81,88] (λb=>zP (a 76) (a 79) λc=>GT c true (zL 1 (a 3) λd=>zI 1 (a 1) d λd=>BO .eql d (a 2) λd=>b [(a 3),(a 7),c,d]) (b [(a 3),(a 7),c,U])) λa=>zA (a 81) (a 88) λb=>IF b (K (I 3)) (CUT [3,7,93,96] (λb=>zL 0 (a 3) λc=>BO .eql c (I 1) λc=>GT c false (zL 0 (a 3) λd=>BO .eql d (I 2) λd=>b [(a 3),(a 7),c,d]) (b [(a 3),(a 7),c,U])) λa=>CUT [7,98,101] (λb=>zP (a 93) (a 96) λc=>GT c false (zL 0 (a 3) λd=>BO .eql d (I 9) λd=>b [(a 7),c,d]) (b [(a 7),c,U])) λa=>CUT [103,105] (λb=>zP (a 98) (a 101) λc=>GT c true (BO .eql (a 7) (I 8) λa=>b [c,a]) (b [c,U])) λa=>zA (a 103) (a 105) λa=>IF a (K (I 5)) (K (I 0))))
theorem Ov {a0 a1 a2:Value}:zG JW [a0,a1,a2] (JP a0 a1 a2):=zG.mk { at_:=[(5,[1,2,3,7,8,9,10]),(7,[1,2,3,7,8,9,10]),(14,[1,2,3,7,8,9,10,41,48]),(21,[1,2,3,7,8,9,10,55])],rg:=[(2,[(8,[1,2,3,7,16,20])]),(3,[(8,[1,2,3,7,8,25,29])]),(4,[(8,[1,2,3,7,8,9,34,38])]),(25,[(5,[1,2,3,7,10,60,62]),(4,[1,2,3,7,64,66])]),(27,[(7,[1,2,3,7,71,74]),(5,[1,2,3,7,76,79]),(9,[3,7,81,88])]),(29,[(7,[3,7,93,96]),(5,[7,98,101]),(4,[103,105])])] } func235 (by kernel_rfl) λ_=>by kernel_rfl
def KP (a0 a1 a2:Value) (K:Value→M):M:=
 zM 17 a0 λa=>IA 17 a a1 λa=>LA 17 a λa=>AL 187 EM λb=>ST 17 b a<|zL 0 b λa=>CA P 98 [a] λa=>BS 3 1 (ZR 1 z3) [(0,1,a2)] λc=>AP 3 1 8 (cl z3) a c λa=>zS 0 b a<|zM 17 a0 λa=>LA 17 b λb=>IA 17 a a1 λa=>ST 17 a b<|CA P 234 [a0,a1,(I 0),(I 0)] λa=>K (.tuple #[])
theorem Q6 {a0 a1 a2:Value}:zG LO [a0,a1,a2] (KP a0 a1 a2):=zG.mk {} func236 (by kernel_rfl) λ_=>by kernel_rfl
def Kj (a0 a1:Value) (K:Value→M):M:=
 AL 187 a0 λa=>BO .eql a1 (I 1) λb=>IF b (zL 4 a λa=>K a) (BO .eql a1 (I 2) λb=>IF b (zL 5 a λa=>K a) (BO .eql a1 (I 3) λb=>IF b (zL 6 a λa=>K a) (zL 8 a λa=>K a)))
theorem Q3 {a0 a1:Value}:zG Kc [a0,a1] (Kj a0 a1):=zG.mk {} func237 (by kernel_rfl) λ_=>by kernel_rfl
def Le (a0 a1:Value) (K:Value→M):M:=
 CUT [4] (λa=>CUT [7,11,12,13] (λa=>BO .neq a1 (I 0) λb=>GT b true (zN 4 a0 λc=>FO 1 c λc=>L1 c λd=>a [b,c,d,a1]) (a [b,U,U,U])) λb=>GT (b 7) true (CA P 54 [(b 13)] λc=>IA 5 (b 12) c λc=>zL 0 c λc=>BO .eql c (I 4) λc=>zA (b 7) c λc=>AND (L1 (b 11) λa=>EV a (b 12))<|a [c]) (zA (b 7) U λc=>AND (EV U (b 12))<|a [c])) λa=>K (a 4)
theorem Qp {a0 a1:Value}:zG H8 [a0,a1] (Le a0 a1):=zG.mk { at_:=[(1,[4])],dr:=[(1,[(0,[(9,[7,11,12,13])])])] } func238 (by kernel_rfl) λ_=>by kernel_rfl
def L4 (a0:Value) (K:Value→M):M:=
 BO .eql a0 (I 11) λa=>IF a (K (I 12)) (BO .eql a0 (I 15) λa=>IF a (K (I 16)) (BO .add a0 (I 1) λa=>K a))
theorem RO {a0:Value}:zG LF [a0] (L4 a0):=zG.mk {} func239 (by kernel_rfl) λ_=>by kernel_rfl
def Ka (a0 a1:Value) (K:Value→M):M:=
 NC a0 λa=>zS 34 a (.bool true)<|zN 4 a0 λa=>zL 0 a λa=>zI 1 a a1 λa=>K a
theorem Qj {a0 a1:Value}:zG Km [a0,a1] (Ka a0 a1):=zG.mk {} func240 (by kernel_rfl) λ_=>by kernel_rfl
def ME (a0 a1 a2:Value) (K:Value→M):M:=
 AL 187 a0 λa=>AL 187 EM λb=>CUT [1,3,6] (λc=>CUT [1,3,6] (λc=>BO .eql a1 (I 1) λd=>IF d (zS 4 a a2<|c [a1,a,b]) (BO .eql a1 (I 2) λd=>IF d (zS 5 a a2<|c [a1,a,b]) (BO .eql a1 (I 3) λd=>IF d (zS 6 a a2<|c [a1,a,b]) (zS 8 a a2<|c [a1,a,b])))) λa=>c [(a 1),(a 3),(a 6)]) λa=>CA P 239 [(a 1)] λb=>zS 3 (a 3) b<|LA 17 (a 3) λb=>ST 17 (a 6) b<|LA 17 (a 6) λa=>K a
theorem Qm {a0 a1 a2:Value}:zG MD [a0,a1,a2] (ME a0 a1 a2):=zG.mk { at_:=[(1,[1,3,6]),(3,[1,3,6])] } func241 (by kernel_rfl) λ_=>by kernel_rfl
def N4 (a0:Value) (K:Value→M):M:=
 IF a0 (K (I 1)) (K (I 0))
theorem TC {a0:Value}:zG N0 [a0] (N4 a0):=zG.mk {} func242 (by kernel_rfl) λ_=>by kernel_rfl
def L9 (a0 a1 a2:Value) (K:Value→M):M:=
 BO .eql a1 (I 10) λa=>IF a (LN a0 λa=>BO .eql a (I 8) λa=>IF a (K (.tuple #[(.slice none 0 0),(.bool false)])) (CA P 98 [a0] λa=>BS 3 1 (ZR 1 z3) [(0,1,a2)] λb=>AP 3 1 8 (cl z3) a b λa=>K (.tuple #[a,(.bool true)]))) (CUT [0,8] (λa=>CUT [0,8] (λa=>LP [0,2,8,9] (λb c=>LN (c 0) λd=>BO .lss (c 9) d λd=>IF d (CUT [0,2,8,9] (λa=>CUT [0,2,8,9] (λa=>zI 1 (c 0) (c 9) λb=>BO .eql b (c 2) λb=>IF b (a [(c 0),(c 2),(c 9),(c 9)]) (a [(c 0),(c 2),(c 8),(c 9)])) λb=>a [(b 0),(b 2),(b 8),(b 9)]) λa=>BO .add (a 9) (I 1) λc=>b [(a 0),(a 2),(a 8),c]) (a [(c 0),(c 8)])) [a0,a2,(I (-1)),(I 0)]) λb=>a [(b 0),(b 8)]) λa=>BO .lss (a 8) (I 0) λb=>IF b (K (.tuple #[(.slice none 0 0),(.bool false)])) (SL 1 (a 0) none (some (a 8)) λb=>BO .add (a 8) (I 1) λc=>SL 1 (a 0) (some c) none λa=>CA P 98 [b] λb=>AP 3 1 8 (cl z3) b a λa=>K (.tuple #[a,(.bool true)])))
theorem RN {a0 a1 a2:Value}:zG Ko [a0,a1,a2] (L9 a0 a1 a2):=zG.mk { at_:=[(8,[0,8]),(10,[0,8]),(11,[0,2,8,9]),(14,[0,2,8,9]),(15,[0,2,8,9])] } func243 (by kernel_rfl) λ_=>by kernel_rfl
def J0 (a0 a1 a2:Value) (K:Value→M):M:=
 AL 183 a0 λa=>CUT [1,2,3,10,13] (λb=>zL 0 a λc=>BO .eql c (I 4) λc=>GT c false (zL 0 a λd=>BO .eql d (I 5) λd=>b [a1,a2,a,c,d]) (b [a1,a2,a,c,U])) λa=>zP (a 10) (a 13) λb=>IF b (CUT [18,22] (λb=>zL 4 (a 3) λc=>BO .geq c (I 0) λc=>GT c true (zL 4 (a 3) λd=>BO .lss d (a 2) λa=>b [c,a]) (b [c,U])) λa=>zA (a 18) (a 22) λa=>K a) (CUT [27,31] (λb=>zL 4 (a 3) λc=>BO .geq c (I 0) λc=>GT c true (zL 4 (a 3) λd=>BO .lss d (a 1) λa=>b [c,a]) (b [c,U])) λa=>zA (a 27) (a 31) λa=>K a)
theorem PR {a0 a1 a2:Value}:zG JT [a0,a1,a2] (J0 a0 a1 a2):=zG.mk { rg:=[(1,[(7,[1,2,3,10,13])]),(2,[(8,[18,22])]),(3,[(8,[27,31])])] } func244 (by kernel_rfl) λ_=>by kernel_rfl
def GV (a0 a1 a2:Value) (K:Value→M):M:=
 CUT [0,1,2,17,19] (λa=>CA P 82 [a0] λb=>NT b λb=>GT b false (BO .lss a1 (I 0) λc=>a [a0,a1,a2,b,c]) (a [a0,a1,a2,b,U])) λa=>CUT [0,1,2,21,23] (λb=>zP (a 17) (a 19) λc=>GT c false (BO .gtr (a 1) (I 3) λd=>b [(a 0),(a 1),(a 2),c,d]) (b [(a 0),(a 1),(a 2),c,U])) λa=>CUT [0,1,2,25,27] (λb=>zP (a 21) (a 23) λc=>GT c false (BO .lss (a 2) (I 1) λd=>b [(a 0),(a 1),(a 2),c,d]) (b [(a 0),(a 1),(a 2),c,U])) λa=>CUT [0,1,2,29,31] (λb=>zP (a 25) (a 27) λc=>GT c false (BO .gtr (a 2) (I 16) λd=>b [(a 0),(a 1),(a 2),c,d]) (b [(a 0),(a 1),(a 2),c,U])) λa=>zP (a 29) (a 31) λb=>IF b (K (.tuple #[(.slice none 0 0),(I 0),(.bool false)])) (CA P 290 [(a 0),(a 1)] λb=>CUT [0,1,9,50] (λc=>CUT [0,1,9,38,42,43,45,46] (λc=>BO .geq b (I 0) λd=>GT d true (IA 5 (a 0) b λe=>FO 2 e λe=>L1 e λf=>BO .add f (a 2) λg=>c [(a 0),(a 1),b,d,e,f,g,b]) (c [(a 0),(a 1),b,d,U,U,U,U])) λa=>GT (a 38) true (CA P 80 [(a 46)] λb=>BO .add b (I 16) λb=>BO .leq (a 45) b λb=>zA (a 38) b λb=>AND (L1 (a 42) λb=>EV b (a 43))<|c [(a 0),(a 1),(a 9),b]) (zA (a 38) U λb=>AND (EV U (a 43))<|c [(a 0),(a 1),(a 9),b])) λa=>IF (a 50) (IA 5 (a 0) (a 9) λb=>FO 2 b λb=>L1 b λc=>CA P 291 [(a 0)] λa=>AND (L1 b λa=>EV a c)<|AND (L1 b λa=>EV a c)<|K (.tuple #[a,c,(.bool true)])) (CA P 291 [(a 0)] λb=>CUT [1,10] (λc=>BO .geq (a 9) (I 0) λd=>IF d (CA P 292 [(a 0),(a 9)] λb=>EX 0 b λd=>EX 1 b λb=>c [(a 1),d]) (c [(a 1),b])) λa=>CA P 293 [(a 10),(a 1)] λa=>EX 0 a λb=>EX 1 a λc=>EX 2 a λa=>NT a λa=>IF a (K (.tuple #[(.slice none 0 0),(I 0),(.bool false)])) (CA P 80 [c] λa=>K (.tuple #[b,a,(.bool true)]))))
theorem Mi {a0 a1 a2:Value}:zG Gl [a0,a1,a2] (GV a0 a1 a2):=zG.mk { at_:=[(6,[0,1,9,50]),(9,[1,10])],rg:=[(1,[(6,[0,1,2,17,19]),(4,[0,1,2,21,23]),(4,[0,1,2,25,27]),(4,[0,1,2,29,31])])],dr:=[(4,[(0,[(11,[0,1,9,38,42,43,45,46])])])] } func245 (by kernel_rfl) λ_=>by kernel_rfl
def Kv (a0 a1:Value) (K:Value→M):M:=
 zM 17 a0 λa=>IA 17 a a1 λa=>LA 17 a λa=>AL 187 EM λb=>ST 17 b a<|zM 17 a0 λa=>zL 0 b λc=>zL 1 b λb=>BD (cl EM) [(0,1,c),(1,1,b),(2,1,(I 1))] λb=>IA 17 a a1 λa=>ST 17 a b<|zN 4 a0 λa=>zS 5 a (.bool true)<|zN 4 a0 λa=>zS 4 a (.bool true)<|K (.tuple #[])
theorem Qb {a0 a1:Value}:zG Ke [a0,a1] (Kv a0 a1):=zG.mk {} func246 (by kernel_rfl) λ_=>by kernel_rfl
def J4 (a0 a1 a2:Value) (K:Value→M):M:=
 NC a0 λa=>zS 34 a (.bool true)<|zN 4 a0 λa=>zL 0 a λa=>IA 1 a a1 λa=>ST 1 a a2<|K (.tuple #[])
theorem OO {a0 a1 a2:Value}:zG J8 [a0,a1,a2] (J4 a0 a1 a2):=zG.mk {} func247 (by kernel_rfl) λ_=>by kernel_rfl
def NG (a0 a1 a2:Value) (K:Value→M):M:=
 CA P 54 [a1] λa=>zN 4 a0 λb=>zL 1 b λb=>IA 5 b a λb=>LA 5 b λb=>AL 66 z66 λc=>ST 5 c b<|BO .add a1 a2 λb=>zS 2 c b<|zN 4 a0 λb=>zL 1 b λb=>LA 5 c λc=>IA 5 b a λa=>ST 5 a c<|K (.tuple #[])
theorem SN {a0 a1 a2:Value}:zG N5 [a0,a1,a2] (NG a0 a1 a2):=zG.mk {} func248 (by kernel_rfl) λ_=>by kernel_rfl
def Kr (a0 a1 a2:Value) (K:Value→M):M:=
 zM 17 a0 λa=>IA 17 a a1 λa=>LA 17 a λa=>AL 187 EM λb=>ST 17 b a<|CUT [0,1,2,6,17,21] (λa=>zL 3 b λc=>BO .eql c (I 12) λc=>GT c true (zL 7 b λd=>BO .eql a2 d λd=>a [a0,a1,a2,b,c,d]) (a [a0,a1,a2,b,c,U])) λa=>zA (a 17) (a 21) λb=>IF b (zL 8 (a 6) λb=>CA P 236 [(a 0),(a 1),b] λa=>K (.tuple #[])) (CA P 238 [(a 0),(a 2)] λb=>NT b λb=>IF b (CA P 236 [(a 0),(a 1),(a 2)] λa=>K (.tuple #[])) (zS 7 (a 6) (a 2)<|zS 8 (a 6) (a 2)<|zS 3 (a 6) (I 11)<|zM 17 (a 0) λb=>LA 17 (a 6) λc=>IA 17 b (a 1) λa=>ST 17 a c<|K (.tuple #[])))
theorem Q8 {a0 a1 a2:Value}:zG LM [a0,a1,a2] (Kr a0 a1 a2):=zG.mk { rg:=[(1,[(8,[0,1,2,6,17,21])])] } func249 (by kernel_rfl) λ_=>by kernel_rfl
def Mx (a0 a1:Value) (K:Value→M):M:=
 CUT [0,1,10,12] (λa=>zN 4 a0 λb=>zL 3 b λb=>BO .eql b (I 1) λb=>GT b true (BO .neq a1 (I 0) λc=>a [a0,a1,b,c]) (a [a0,a1,b,U])) λa=>zA (a 10) (a 12) λb=>IF b (zN 4 (a 0) λb=>zL 9 b λb=>CA P 98 [b] λb=>BS 3 1 (ZR 1 z3) [(0,1,(a 1))] λc=>AP 3 1 8 (cl z3) b c λb=>zN 4 (a 0) λa=>zS 9 a b<|K (.tuple #[])) (K (.tuple #[]))
theorem Sr {a0 a1:Value}:zG Mr [a0,a1] (Mx a0 a1):=zG.mk { rg:=[(0,[(9,[0,1,10,12])])] } func250 (by kernel_rfl) λ_=>by kernel_rfl
def Lx (a0 a1 a2:Value) (K:Value→M):M:=
 zM 17 a0 λa=>IA 17 a a1 λa=>LA 17 a λa=>AL 187 EM λb=>ST 17 b a<|CUT [0,1,2,6,17,21] (λa=>zL 3 b λc=>BO .eql c (I 16) λc=>GT c true (zL 7 b λd=>BO .eql a2 d λd=>a [a0,a1,a2,b,c,d]) (a [a0,a1,a2,b,c,U])) λa=>zA (a 17) (a 21) λb=>IF b (CA P 234 [(a 0),(a 1),(I 0),(I 0)] λa=>K (.tuple #[])) (zS 7 (a 6) (a 2)<|CA P 238 [(a 0),(a 2)] λb=>IF b (zS 8 (a 6) (a 2)<|zS 3 (a 6) (I 15)<|zM 17 (a 0) λb=>LA 17 (a 6) λc=>IA 17 b (a 1) λa=>ST 17 a c<|K (.tuple #[])) (zL 5 (a 6) λb=>BO .neq (a 2) b λb=>IF b (CA P 234 [(a 0),(a 1),(I 0),(I 0)] λa=>K (.tuple #[])) (CA P 250 [(a 0),(a 2)] λb=>zS 3 (a 6) (I 14)<|zM 17 (a 0) λb=>LA 17 (a 6) λc=>IA 17 b (a 1) λa=>ST 17 a c<|K (.tuple #[]))))
theorem RB {a0 a1 a2:Value}:zG KS [a0,a1,a2] (Lx a0 a1 a2):=zG.mk { rg:=[(1,[(8,[0,1,2,6,17,21])])] } func251 (by kernel_rfl) λ_=>by kernel_rfl
def G4 (a0:Value) (K:Value→M):M:=
 CA P 294 [a0] λa=>zN 4 a0 λa=>zS 9 a (.slice none 0 0)<|zN 4 a0 λa=>zS 3 a (I 1)<|zN 18 a0 λa=>FO 1 a λa=>L1 a λb=>zN 18 a0 λc=>FO 2 c λc=>L1 c λd=>BD (cl HB) [(0,1,(I 1)),(1,1,b),(2,1,d)] λe=>AL 165 HB λf=>AND (L1 a λa=>EV a b)<|AND (L1 c λa=>EV a d)<|ST 15 f e<|CUT [0,2] (λa=>CUT [0,2] (λa=>LP [0,2,3] (λb c=>zM 17 (c 0) λd=>LN d λd=>BO .lss (c 3) d λd=>IF d (CUT [0,2,3] (λa=>CUT [0,2,3] (λa=>CUT [0,2,3] (λa=>LP [0,2,3,4] (λb c=>zM 17 (c 0) λd=>IA 17 d (c 3) λd=>zL 0 d λd=>LN d λd=>BO .lss (c 4) d λd=>IF d (CUT [0,2,3,4] (λa=>CUT [0,2,3,4] (λa=>zM 17 (c 0) λb=>IA 17 b (c 3) λb=>zL 0 b λb=>zI 1 b (c 4) λb=>BO .neq b (I 0) λb=>IF b (FO 3 (c 2) λb=>L1 b λd=>zM 17 (c 0) λe=>IA 17 e (c 3) λe=>zL 0 e λe=>zI 1 e (c 4) λe=>BS 3 1 (ZR 1 z3) [(0,1,e)] λe=>AND (L1 b λa=>EV a d)<|AP 3 1 8 (cl z3) d e λb=>zS 3 (c 2) b<|a [(c 0),(c 2),(c 3),(c 4)]) (a [(c 0),(c 2),(c 3),(c 4)])) λb=>a [(b 0),(b 2),(b 3),(b 4)]) λa=>BO .add (a 4) (I 1) λc=>b [(a 0),(a 2),(a 3),c]) (a [(c 0),(c 2),(c 3)])) [(c 0),(c 2),(c 3),(I 0)]) λb=>a [(b 0),(b 2),(b 3)]) λb=>a [(b 0),(b 2),(b 3)]) λa=>BO .add (a 3) (I 1) λc=>b [(a 0),(a 2),c]) (a [(c 0),(c 2)])) [a0,f,(I 0)]) λb=>a [(b 0),(b 2)]) λa=>zL 3 (a 2) λb=>zN 4 (a 0) λc=>zL 10 c λc=>AP 3 1 8 (cl z3) b c λb=>zS 3 (a 2) b<|LA 15 (a 2) λb=>zN 18 (a 0) λc=>ST 15 c b<|LP [0,5] (λa b=>zN 4 (b 0) λc=>zL 1 c λc=>LN c λc=>BO .lss (b 5) c λc=>IF c (zN 4 (b 0) λc=>zL 1 c λc=>IA 5 c (b 5) λc=>LA 5 c λc=>AL 66 z66 λd=>ST 5 d c<|zL 2 d λc=>zS 3 d c<|zS 4 d (I 0)<|zN 4 (b 0) λc=>zL 1 c λc=>LA 5 d λd=>IA 5 c (b 5) λc=>ST 5 c d<|BO .add (b 5) (I 1) λc=>a [(b 0),c]) (K (.tuple #[]))) [(a 0),(I 1)]
theorem KR {a0:Value}:zG G9 [a0] (G4 a0):=zG.mk { at_:=[(4,[0,2]),(6,[0,2]),(7,[0,2,3]),(10,[0,2,3]),(11,[0,2,3]),(13,[0,2,3]),(14,[0,2,3,4]),(17,[0,2,3,4]),(18,[0,2,3,4]),(24,[0,5])] } func252 (by kernel_rfl) λ_=>by kernel_rfl
def IJ (a0:Value) (K:Value→M):M:=
 CUT [0] (λa=>CUT [0] (λa=>LP [0] (λb c=>CUT [0,18,25] (λa=>zN 18 (c 0) λb=>zL 3 b λb=>LN b λb=>BO .gtr b (I 0) λb=>GT b false (zN 4 (c 0) λd=>zL 9 d λd=>LN d λd=>BO .gtr d (I 0) λd=>a [(c 0),b,d]) (a [(c 0),b,U])) λc=>CUT [0,27,33] (λa=>zP (c 18) (c 25) λb=>GT b false (zN 18 (c 0) λd=>zL 0 d λd=>BO .eql d (I 2) λd=>a [(c 0),b,d]) (a [(c 0),b,U])) λc=>zP (c 27) (c 33) λd=>IF d (CUT [0] (λa=>zN 18 (c 0) λb=>zL 0 b λb=>BO .eql b (I 2) λb=>IF b (CA P 256 [(c 0)] λb=>a [(c 0)]) (CA P 255 [(c 0)] λb=>a [(c 0)])) λa=>b [(a 0)]) (a [(c 0)])) [a0]) λb=>a [(b 0)]) λa=>zN 4 (a 0) λb=>zS 4 b (.bool false)<|CUT [0,2] (λb=>CUT [0,2] (λb=>LP [0,2,3] (λa c=>zN 4 (c 0) λd=>zL 10 d λd=>LN d λd=>BO .lss (c 3) d λd=>IF d (zN 4 (c 0) λb=>zL 10 b λb=>zI 1 b (c 3) λb=>CA P 54 [b] λb=>BS 3 1 (ZR 1 z3) [(0,1,b)] λb=>AP 3 1 8 (cl z3) (c 2) b λb=>BO .add (c 3) (I 1) λd=>a [(c 0),b,d]) (b [(c 0),(c 2)])) [(a 0),(.slice none 0 0),(I 0)]) λa=>b [(a 0),(a 2)]) λa=>zN 4 (a 0) λb=>zL 1 b λb=>zN 0 (a 0) λc=>zL 2 c λc=>CA P 295 [b,c,(a 2)] λb=>EX 0 b λc=>EX 1 b λb=>CUT [0,4] (λd=>CUT [0,4] (λd=>LP [0,4,5,6] (λa b=>LN (b 5) λc=>BO .lss (b 6) c λc=>IF c (zN 4 (b 0) λc=>zL 1 c λc=>zI 1 (b 5) (b 6) λd=>CA P 296 [c,d] λc=>EX 0 c λd=>EX 1 c λc=>zN 4 (b 0) λc=>zS 1 c d<|BO .add (b 6) (I 1) λc=>a [(b 0),(b 4),(b 5),c]) (d [(b 0),(b 4)])) [(a 0),c,b,(I 0)]) λa=>d [(a 0),(a 4)]) λa=>CUT [0,4] (λb=>CUT [0,4] (λb=>LP [0,4,9] (λa c=>LN (c 4) λd=>BO .lss (c 9) d λd=>IF d (zN 4 (c 0) λb=>FO 1 b λb=>L1 b λd=>IA 1 (c 4) (c 9) λe=>L1 e λf=>IA 5 d f λg=>LA 5 g λh=>AL 66 z66 λi=>AND (L1 b λa=>EV a d)<|AND (L1 e λa=>EV a f)<|AND (LA 5 g λa=>EV a h)<|ST 5 i h<|zS 0 i (I 4)<|zN 4 (c 0) λb=>zL 1 b λb=>zI 1 (c 4) (c 9) λd=>LA 5 i λe=>IA 5 b d λb=>ST 5 b e<|BO .add (c 9) (I 1) λb=>a [(c 0),(c 4),b]) (b [(c 0),(c 4)])) [(a 0),(a 4),(I 0)]) λa=>b [(a 0),(a 4)]) λa=>LN (a 4) λb=>BO .eql b (I 0) λb=>IF b (CA P 297 [(a 0)] λa=>K (.tuple #[])) (zN 4 (a 0) λb=>zS 3 b (I 2)<|zN 18 (a 0) λb=>zL 1 b λb=>zN 18 (a 0) λc=>zL 2 c λc=>BD (cl HB) [(0,1,(I 5)),(4,1,(I 1)),(5,1,(I 16)),(1,1,b),(2,1,c)] λb=>zN 18 (a 0) λa=>ST 15 a b<|K (.tuple #[]))
theorem O4 {a0:Value}:zG HZ [a0] (IJ a0):=zG.mk { at_:=[(0,[0]),(1,[0]),(2,[0]),(5,[0]),(9,[0,2]),(11,[0,2]),(12,[0,2,3]),(18,[0,4]),(20,[0,4]),(21,[0,4,5,6]),(27,[0,4]),(29,[0,4]),(30,[0,4,9])],rg:=[(0,[(15,[0,18,25]),(8,[0,27,33])])] } func253 (by kernel_rfl) λ_=>by kernel_rfl
def Hj (a0:Value) (K:Value→M):M:=
 CUT [0] (λa=>CUT [0] (λa=>LP [0,2] (λb c=>zM 17 (c 0) λd=>LN d λd=>BO .lss (c 2) d λd=>IF d (zM 17 (c 0) λa=>IA 17 a (c 2) λa=>LA 17 a λa=>AL 187 EM λd=>ST 17 d a<|zL 0 d λa=>CA P 98 [a] λa=>zS 0 d a<|CUT [0,2,3] (λa=>CUT [0,2,3] (λa=>LP [0,2,3,4] (λb c=>zL 0 (c 3) λd=>LN d λd=>BO .lss (c 4) d λd=>IF d (CUT [0,2,3,4] (λa=>CUT [0,2,3,4] (λa=>zL 0 (c 3) λb=>zI 1 b (c 4) λb=>CA P 238 [(c 0),b] λb=>IF b (zL 0 (c 3) λb=>zN 4 (c 0) λd=>zL 0 d λd=>zL 0 (c 3) λe=>zI 1 e (c 4) λe=>zI 1 d e λd=>IA 1 b (c 4) λb=>ST 1 b d<|a [(c 0),(c 2),(c 3),(c 4)]) (a [(c 0),(c 2),(c 3),(c 4)])) λb=>a [(b 0),(b 2),(b 3),(b 4)]) λa=>BO .add (a 4) (I 1) λc=>b [(a 0),(a 2),(a 3),c]) (a [(c 0),(c 2),(c 3)])) [(c 0),(c 2),d,(I 0)]) λb=>a [(b 0),(b 2),(b 3)]) λa=>zM 17 (a 0) λc=>LA 17 (a 3) λd=>IA 17 c (a 2) λc=>ST 17 c d<|BO .add (a 2) (I 1) λc=>b [(a 0),c]) (a [(c 0)])) [a0,(I 0)]) λb=>a [(b 0)]) λa=>CUT [0] (λb=>CUT [0] (λb=>LP [0,5] (λa c=>zN 4 (c 0) λd=>zL 1 d λd=>LN d λd=>BO .lss (c 5) d λd=>IF d (CUT [0,5] (λa=>CUT [0,5] (λa=>zN 4 (c 0) λb=>zL 1 b λb=>IA 5 b (c 5) λb=>zL 0 b λb=>BO .eql b (I 4) λb=>IF b (zN 4 (c 0) λb=>zL 1 b λb=>CA P 296 [b,(c 5)] λb=>EX 0 b λd=>EX 1 b λb=>zN 4 (c 0) λb=>zS 1 b d<|a [(c 0),(c 5)]) (a [(c 0),(c 5)])) λb=>a [(b 0),(b 5)]) λb=>BO .add (b 5) (I 1) λc=>a [(b 0),c]) (b [(c 0)])) [(a 0),(I 1)]) λa=>b [(a 0)]) λa=>CA P 297 [(a 0)] λa=>K (.tuple #[])
theorem Ni {a0:Value}:zG IQ [a0] (Hj a0):=zG.mk { at_:=[(0,[0]),(2,[0]),(3,[0,2]),(10,[0,2,3]),(12,[0,2,3]),(13,[0,2,3,4]),(16,[0,2,3,4]),(17,[0,2,3,4]),(19,[0]),(21,[0]),(22,[0,5]),(25,[0,5]),(26,[0,5])] } func254 (by kernel_rfl) λ_=>by kernel_rfl
def L6 (a0:Value) (K:Value→M):M:=
 zN 18 a0 λa=>LA 15 a λa=>AL 165 HB λb=>ST 15 b a<|zL 3 b λa=>LN a λa=>BO .eql a (I 0) λa=>IF a (CUT [0,2] (λa=>zN 4 a0 λc=>zL 9 c λc=>LN c λc=>BO .eql c (I 0) λc=>IF c (zN 4 a0 λc=>zS 4 c (.bool true)<|zS 2 b (I 2)<|a [a0,b]) (zN 4 a0 λc=>zL 9 c λc=>zI 1 c (I 0) λc=>BS 3 1 (ZR 1 z3) [(0,1,c)] λc=>zS 3 b c<|zN 4 a0 λc=>zL 9 c λc=>SL 1 c (some (I 1)) none λc=>CA P 98 [c] λc=>zN 4 a0 λd=>zS 9 d c<|a [a0,b])) λa=>LA 15 (a 2) λb=>zN 18 (a 0) λa=>ST 15 a b<|K (.tuple #[])) (zL 3 b λa=>zL 3 b λc=>LN c λc=>BO .sub c (I 1) λc=>zI 1 a c λa=>zL 3 b λc=>zL 3 b λd=>LN d λd=>BO .sub d (I 1) λd=>SL 1 c none (some d) λc=>CA P 98 [c] λc=>zS 3 b c<|CA P 54 [a] λc=>CUT [0,2] (λd=>CUT [0,2,3,4,82,91] (λd=>zN 4 a0 λe=>zL 1 e λe=>IA 5 e c λe=>zL 3 e λe=>BO .lss a e λe=>GT e true (zN 4 a0 λf=>zL 2 f λf=>zI 1 f a λf=>NT f λf=>d [a0,b,a,c,e,f]) (d [a0,b,a,c,e,U])) λa=>zA (a 82) (a 91) λb=>IF b (zN 4 (a 0) λb=>zL 2 b λb=>IA 1 b (a 3) λb=>ST 1 b (.bool true)<|BO .add (a 3) (I 1) λb=>CA P 240 [(a 0),b] λb=>CA P 128 [b] λb=>EX 0 b λc=>EX 1 b λb=>AL 60 z60 λb=>ST 2 b c<|zN 4 (a 0) λc=>zL 1 c λc=>IA 5 c (a 4) λc=>LA 5 c λc=>AL 66 z66 λe=>ST 5 e c<|FO 4 e λc=>L1 c λf=>LA 2 b λg=>CA P 63 [g] λg=>BO .add f g λg=>FO 4 e λh=>AND (L1 c λa=>EV a f)<|ST 1 h g<|zN 4 (a 0) λc=>zL 1 c λc=>LA 5 e λe=>IA 5 c (a 4) λc=>ST 5 c e<|zS 5 (a 2) (a 3)<|zS 6 (a 2) (I 0)<|LA 2 b λc=>FO 7 (a 2) λe=>ST 2 e c<|zL 0 b λb=>BO .gtr b (I 0) λb=>IF b (zS 0 (a 2) (I 2)<|d [(a 0),(a 2)]) (d [(a 0),(a 2)])) (d [(a 0),(a 2)])) λa=>LA 15 (a 2) λb=>zN 18 (a 0) λa=>ST 15 a b<|K (.tuple #[]))
theorem Qz {a0:Value}:zG L7 [a0] (L6 a0):=zG.mk { at_:=[(3,[0,2]),(11,[0,2])],rg:=[(11,[(21,[0,2,3,4,82,91])])] } func255 (by kernel_rfl) λ_=>by kernel_rfl
def Lv (a0:Value) (K:Value→M):M:=
 zN 18 a0 λa=>LA 15 a λa=>AL 165 HB λb=>ST 15 b a<|zL 5 b λa=>BO .add a (I 2) λa=>zL 6 b λc=>BO .add a c λa=>CA P 240 [a0,a] λa=>CUT [0,2] (λc=>BO .neq a (I 0) λd=>IF d (zL 3 b λd=>CA P 98 [d] λd=>BS 3 1 (ZR 1 z3) [(0,1,a)] λa=>AP 3 1 8 (cl z3) d a λa=>zS 3 b a<|c [a0,b]) (c [a0,b])) λa=>zL 6 (a 2) λb=>BO .add b (I 1) λb=>zS 6 (a 2) b<|CUT [0,2] (λb=>zL 6 (a 2) λc=>FO 7 (a 2) λd=>zL 0 d λd=>BO .eql c d λc=>IF c (zS 0 (a 2) (I 1)<|b [(a 0),(a 2)]) (b [(a 0),(a 2)])) λa=>LA 15 (a 2) λb=>zN 18 (a 0) λa=>ST 15 a b<|K (.tuple #[])
theorem QM {a0:Value}:zG Ls [a0] (Lv a0):=zG.mk { at_:=[(2,[0,2]),(5,[0,2])] } func256 (by kernel_rfl) λ_=>by kernel_rfl
def M6 (a0:Value) (K:Value→M):M:=
 zN 18 a0 λa=>LA 15 a λa=>AL 165 HB λb=>ST 15 b a<|CUT [0,2] (λa=>CUT [0,2] (λa=>LP [0,2] (λb c=>zL 4 (c 2) λd=>zN 4 (c 0) λe=>zL 1 e λe=>LN e λe=>BO .lss d e λd=>IF d (zN 4 (c 0) λd=>FO 1 d λd=>L1 d λe=>FO 4 (c 2) λf=>L1 f λg=>IA 5 e g λh=>LA 5 h λi=>AL 66 z66 λj=>AND (L1 d λa=>EV a e)<|AND (L1 f λa=>EV a g)<|AND (LA 5 h λa=>EV a i)<|ST 5 j i<|CUT [0,2,3] (λa=>CUT [0,2,3] (λa=>LP [0,2,3] (λb c=>CUT [0,2,3,29,34] (λa=>zL 0 (c 3) λb=>BO .eql b (I 4) λb=>GT b true (zL 5 (c 2) λd=>zL 2 (c 3) λe=>BO .lss d e λd=>a [(c 0),(c 2),(c 3),b,d]) (a [(c 0),(c 2),(c 3),b,U])) λc=>CUT [0,2,3,36,46] (λa=>zA (c 29) (c 34) λb=>GT b true (zN 4 (c 0) λd=>zL 2 d λd=>zL 5 (c 2) λe=>zI 1 d e λd=>NT d λd=>a [(c 0),(c 2),(c 3),b,d]) (a [(c 0),(c 2),(c 3),b,U])) λc=>zA (c 36) (c 46) λd=>IF d (zL 5 (c 2) λa=>BO .add a (I 1) λa=>zS 5 (c 2) a<|b [(c 0),(c 2),(c 3)]) (a [(c 0),(c 2),(c 3)])) [(c 0),(c 2),j]) λb=>a [(b 0),(b 2),(b 3)]) λc=>CUT [0,2,55,60] (λa=>zL 0 (c 3) λb=>BO .eql b (I 4) λb=>GT b true (zL 5 (c 2) λd=>zL 2 (c 3) λe=>BO .lss d e λd=>a [(c 0),(c 2),b,d]) (a [(c 0),(c 2),b,U])) λc=>zA (c 55) (c 60) λd=>IF d (a [(c 0),(c 2)]) (zL 4 (c 2) λa=>BO .add a (I 1) λa=>zS 4 (c 2) a<|zL 4 (c 2) λa=>BO .mul a (I 16) λa=>zS 5 (c 2) a<|b [(c 0),(c 2)])) (a [(c 0),(c 2)])) [a0,b]) λb=>a [(b 0),(b 2)]) λa=>zL 4 (a 2) λb=>zN 4 (a 0) λc=>zL 1 c λc=>LN c λc=>BO .eql b c λb=>IF b (zN 4 (a 0) λb=>zS 4 b (.bool true)<|zS 2 (a 2) (I 3)<|LA 15 (a 2) λb=>zN 18 (a 0) λa=>ST 15 a b<|K (.tuple #[])) (zL 5 (a 2) λb=>BO .add b (I 1) λb=>zS 5 (a 2) b<|CUT [0,2] (λb=>zL 5 (a 2) λc=>BO .sub c (I 1) λc=>FO 5 (a 2) λd=>L1 d λe=>BO .sub e (I 1) λf=>CA P 240 [(a 0),c] λc=>BO .eql c f λc=>AND (L1 d λa=>EV a e)<|IF c (zL 5 (a 2) λc=>BO .sub c (I 1) λc=>zS 11 (a 2) c<|zS 0 (a 2) (I 20)<|b [(a 0),(a 2)]) (b [(a 0),(a 2)])) λa=>LA 15 (a 2) λb=>zN 18 (a 0) λa=>ST 15 a b<|K (.tuple #[]))
theorem RF {a0:Value}:zG M8 [a0] (M6 a0):=zG.mk { at_:=[(1,[0,2]),(2,[0,2]),(3,[0,2]),(8,[0,2,3]),(9,[0,2,3]),(10,[0,2,3]),(23,[0,2])],rg:=[(5,[(9,[0,2,55,60])])],dr:=[(3,[(0,[(9,[0,2,3,29,34]),(12,[0,2,3,36,46])])])] } func257 (by kernel_rfl) λ_=>by kernel_rfl
def J5 (a0:Value) (K:Value→M):M:=
 zN 18 a0 λa=>LA 15 a λa=>AL 165 HB λb=>ST 15 b a<|CUT [0,2] (λa=>zL 0 b λc=>CUT [0,2] (λa=>BO .eql c (I 20) λd=>IF d (zL 11 b λc=>BO .add c (I 1) λc=>CA P 240 [a0,c] λc=>CA P 128 [c] λc=>EX 0 c λd=>EX 1 c λc=>AL 60 z60 λc=>ST 2 c d<|LA 2 c λc=>CA P 63 [c] λc=>zS 13 b c<|zN 4 a0 λc=>zL 1 c λc=>zM 17 a0 λd=>LN d λd=>zL 13 b λe=>CA P 245 [c,d,e] λc=>EX 0 c λd=>EX 1 c λe=>EX 2 c λc=>NT c λc=>IF c (zN 4 a0 λa=>zS 5 a (.bool true)<|zN 4 a0 λa=>zS 4 a (.bool true)<|K (.tuple #[])) (zN 4 a0 λc=>zS 1 c d<|zS 12 b e<|zS 6 b (I 1)<|zS 0 b (I 21)<|a [a0,b])) (BO .eql c (I 21) λd=>IF d (zL 11 b λc=>zL 6 b λd=>BO .add c d λc=>CA P 240 [a0,c] λc=>zS 14 b c<|zS 0 b (I 22)<|a [a0,b]) (BO .eql c (I 22) λd=>IF d (zL 12 b λc=>zL 6 b λd=>BO .add c d λc=>zL 14 b λd=>CA P 247 [a0,c,d] λc=>zL 6 b λc=>BO .add c (I 1) λc=>zS 6 b c<|zS 0 b (I 21)<|zL 6 b λc=>zL 13 b λd=>BO .eql c d λc=>IF c (zS 0 b (I 23)<|a [a0,b]) (a [a0,b])) (BO .eql c (I 23) λd=>IF d (zL 12 b λc=>zL 12 b λd=>CA P 247 [a0,c,d] λc=>zS 0 b (I 24)<|a [a0,b]) (BO .eql c (I 24) λc=>IF c (CUT [0,2] (λa=>zL 11 b λc=>FO 11 b λd=>L1 d λe=>CA P 240 [a0,c] λc=>BO .eql c e λc=>AND (L1 d λa=>EV a e)<|IF c (zL 11 b λc=>zL 12 b λd=>CA P 247 [a0,c,d] λc=>zL 12 b λc=>zL 13 b λd=>CA P 248 [a0,c,d] λc=>a [a0,b]) (a [a0,b])) λb=>zS 0 (b 2) (I 5)<|a [(b 0),(b 2)]) (a [a0,b])))))) λb=>a [(b 0),(b 2)]) λa=>LA 15 (a 2) λb=>zN 18 (a 0) λa=>ST 15 a b<|K (.tuple #[])
theorem Py {a0:Value}:zG Jl [a0] (J5 a0):=zG.mk { at_:=[(1,[0,2]),(3,[0,2]),(25,[0,2])] } func258 (by kernel_rfl) λ_=>by kernel_rfl
def Jh (a0:Value) (K:Value→M):M:=
 zN 18 a0 λa=>LA 15 a λa=>AL 165 HB λb=>ST 15 b a<|CUT [0,2] (λa=>zL 0 b λc=>CUT [0,2] (λa=>BO .eql c (I 6) λd=>IF d (CUT [0,2] (λa=>CUT [0,2] (λa=>LP [0,2] (λb c=>CUT [0,2,53] (λa=>CUT [0,2,22,34,35,36,38,43,44,45,46,48,49] (λa=>zL 4 (c 2) λb=>zN 4 (c 0) λd=>zL 1 d λd=>LN d λd=>BO .lss b d λb=>GT b true (zN 4 (c 0) λd=>zL 1 d λd=>zL 4 (c 2) λe=>IA 5 d e λd=>zL 0 d λd=>BO .eql d (I 4) λd=>GT d false (FO 5 (c 2) λe=>L1 e λf=>zL 4 (c 2) λg=>zN 4 (c 0) λh=>FO 1 h λh=>L1 h λi=>FO 4 (c 2) λj=>L1 j λk=>IA 5 i k λl=>FO 4 l λl=>L1 l λm=>a [(c 0),(c 2),b,d,e,f,g,h,i,j,k,l,m]) (a [(c 0),(c 2),b,d,U,U,U,U,U,U,U,U,U])) (a [(c 0),(c 2),b,U,U,U,U,U,U,U,U,U,U])) λb=>GT (b 34) false (CA P 80 [(b 38)] λc=>CUT [0,2,22,34,35,36,43,44,45,46,48,49,51] (λa=>GT (b 34) false (BO .add c (b 49) λc=>BO .geq (b 36) c λc=>a [(b 0),(b 2),(b 22),(b 34),(b 35),(b 36),(b 43),(b 44),(b 45),(b 46),(b 48),(b 49),c]) (a [(b 0),(b 2),(b 22),(b 34),(b 35),(b 36),(b 43),(b 44),(b 45),(b 46),(b 48),(b 49),U])) λb=>CUT [0,2,22,34,35,36,43,44,45,46,48,49,52] (λa=>GT (b 22) true (zP (b 34) (b 51) λc=>a [(b 0),(b 2),(b 22),(b 34),(b 35),(b 36),(b 43),(b 44),(b 45),(b 46),(b 48),(b 49),c]) (a [(b 0),(b 2),(b 22),(b 34),(b 35),(b 36),(b 43),(b 44),(b 45),(b 46),(b 48),(b 49),U])) λb=>zA (b 22) (b 52) λc=>AND (GT (b 34) false (L1 (b 35) λa=>EV a (b 36)) (EV U (b 36)))<|AND (GT (b 34) false (L1 (b 43) λa=>EV a (b 44)) (EV U (b 44)))<|AND (GT (b 34) false (L1 (b 45) λa=>EV a (b 46)) (EV U (b 46)))<|AND (GT (b 34) false (L1 (b 48) λa=>EV a (b 49)) (EV U (b 49)))<|a [(b 0),(b 2),c]) (CUT [0,2,22,34,35,36,43,44,45,46,48,49,51] (λa=>GT (b 34) false (BO .add U (b 49) λc=>BO .geq (b 36) c λc=>a [(b 0),(b 2),(b 22),(b 34),(b 35),(b 36),(b 43),(b 44),(b 45),(b 46),(b 48),(b 49),c]) (a [(b 0),(b 2),(b 22),(b 34),(b 35),(b 36),(b 43),(b 44),(b 45),(b 46),(b 48),(b 49),U])) λb=>CUT [0,2,22,34,35,36,43,44,45,46,48,49,52] (λa=>GT (b 22) true (zP (b 34) (b 51) λc=>a [(b 0),(b 2),(b 22),(b 34),(b 35),(b 36),(b 43),(b 44),(b 45),(b 46),(b 48),(b 49),c]) (a [(b 0),(b 2),(b 22),(b 34),(b 35),(b 36),(b 43),(b 44),(b 45),(b 46),(b 48),(b 49),U])) λb=>zA (b 22) (b 52) λc=>AND (GT (b 34) false (L1 (b 35) λa=>EV a (b 36)) (EV U (b 36)))<|AND (GT (b 34) false (L1 (b 43) λa=>EV a (b 44)) (EV U (b 44)))<|AND (GT (b 34) false (L1 (b 45) λa=>EV a (b 46)) (EV U (b 46)))<|AND (GT (b 34) false (L1 (b 48) λa=>EV a (b 49)) (EV U (b 49)))<|a [(b 0),(b 2),c])) λc=>IF (c 53) (zL 4 (c 2) λa=>BO .add a (I 1) λa=>zS 4 (c 2) a<|zL 4 (c 2) λa=>BO .mul a (I 16) λa=>zS 5 (c 2) a<|b [(c 0),(c 2)]) (a [(c 0),(c 2)])) [a0,b]) λb=>a [(b 0),(b 2)]) λb=>zL 4 (b 2) λc=>zN 4 (b 0) λd=>zL 1 d λd=>LN d λd=>BO .eql c d λc=>IF c (zN 4 (b 0) λc=>zS 4 c (.bool true)<|zS 2 (b 2) (I 0)<|a [(b 0),(b 2)]) (zL 5 (b 2) λc=>zS 10 (b 2) c<|zL 5 (b 2) λc=>BO .add c (I 1) λc=>CA P 240 [(b 0),c] λc=>CA P 128 [c] λc=>EX 0 c λd=>EX 1 c λc=>AL 60 z60 λc=>ST 2 c d<|LA 2 c λc=>FO 7 (b 2) λd=>ST 2 d c<|FO 5 (b 2) λc=>L1 c λd=>FO 7 (b 2) λe=>LA 2 e λe=>CA P 63 [e] λe=>BO .add d e λe=>FO 5 (b 2) λf=>AND (L1 c λa=>EV a d)<|ST 1 f e<|zS 6 (b 2) (I 0)<|CUT [0,2,102,126] (λa=>FO 7 (b 2) λc=>zL 0 c λc=>BO .gtr c (I 0) λc=>GT c true (zL 10 (b 2) λd=>zN 4 (b 0) λe=>zL 1 e λe=>zL 4 (b 2) λf=>IA 5 e f λe=>zL 3 e λe=>BO .geq d e λd=>GT d false (zN 4 (b 0) λe=>zL 2 e λe=>zL 10 (b 2) λf=>zI 1 e f λe=>zP d e λd=>a [(b 0),(b 2),c,d]) (zP d U λd=>a [(b 0),(b 2),c,d])) (a [(b 0),(b 2),c,U])) λb=>zA (b 102) (b 126) λc=>IF c (zS 0 (b 2) (I 7)<|a [(b 0),(b 2)]) (a [(b 0),(b 2)]))) (BO .eql c (I 7) λd=>IF d (zL 10 b λc=>BO .add c (I 2) λc=>zL 6 b λd=>BO .add c d λc=>CA P 240 [a0,c] λc=>zS 9 b c<|zL 9 b λc=>CA P 238 [a0,c] λc=>IF c (zS 0 b (I 8)<|a [a0,b]) (LA 15 b λc=>CA P 298 [c] λc=>ST 15 b c<|a [a0,b])) (BO .eql c (I 8) λd=>IF d (zL 9 b λc=>CA P 240 [a0,c] λc=>zS 14 b c<|zS 0 b (I 9)<|zL 14 b λc=>zL 9 b λd=>BO .eql c d λc=>IF c (LA 15 b λc=>CA P 298 [c] λc=>ST 15 b c<|a [a0,b]) (a [a0,b])) (BO .eql c (I 9) λc=>IF c (CUT [0,2] (λa=>zL 10 b λc=>BO .add c (I 2) λc=>zL 6 b λd=>BO .add c d λc=>FO 9 b λd=>L1 d λe=>CA P 240 [a0,c] λc=>BO .eql c e λc=>AND (L1 d λa=>EV a e)<|IF c (zL 10 b λc=>BO .add c (I 2) λc=>zL 6 b λd=>BO .add c d λc=>zL 14 b λd=>CA P 247 [a0,c,d] λc=>a [a0,b]) (a [a0,b])) λb=>LA 15 (b 2) λc=>CA P 298 [c] λc=>ST 15 (b 2) c<|a [(b 0),(b 2)]) (a [a0,b]))))) λb=>a [(b 0),(b 2)]) λa=>LA 15 (a 2) λb=>zN 18 (a 0) λa=>ST 15 a b<|K (.tuple #[])
theorem PM {a0:Value}:zG J9 [a0] (Jh a0):=zG.mk { at_:=[(1,[0,2]),(3,[0,2]),(5,[0,2]),(6,[0,2]),(7,[0,2]),(9,[0,2,53]),(30,[0,2])],dr:=[(3,[(0,[(36,[0,2,22,34,35,36,38,43,44,45,46,48,49])]),(67108864,[(2,[0,2,22,34,35,36,43,44,45,46,48,49,51]),(1,[0,2,22,34,35,36,43,44,45,46,48,49,52])])]),(14,[(0,[(29,[0,2,102,126])])])] } func259 (by kernel_rfl) λ_=>by kernel_rfl
end Go.Lf
end
section
namespace Go.Lf
open Go Go.Proofs Go.Proofs.Tryz
def Hl (a0:Value) (K:Value→M):M:=
 CUT [0,5,7] (λa=>BO .eql a0 (I 2) λb=>GT b false (BO .eql a0 (I 3) λc=>a [a0,b,c]) (a [a0,b,U])) λa=>CUT [0,9,11] (λb=>zP (a 5) (a 7) λc=>GT c false (BO .eql (a 0) (I 4) λd=>b [(a 0),c,d]) (b [(a 0),c,U])) λa=>CUT [0,13,15] (λb=>zP (a 9) (a 11) λc=>GT c false (BO .eql (a 0) (I 5) λd=>b [(a 0),c,d]) (b [(a 0),c,U])) λa=>CUT [17,19] (λb=>zP (a 13) (a 15) λc=>GT c false (BO .eql (a 0) (I 7) λa=>b [c,a]) (b [c,U])) λa=>zP (a 17) (a 19) λa=>K a
theorem O5 {a0:Value}:zG Hh [a0] (Hl a0):=zG.mk { rg:=[(1,[(5,[0,5,7]),(4,[0,9,11]),(4,[0,13,15]),(4,[17,19])])] } func289 (by kernel_rfl) λ_=>by kernel_rfl
def NH (a0 a1:Value) (K:Value→M):M:=
 LP [0,1,5] (λa b=>LN (b 0) λc=>BO .lss (b 5) c λc=>IF c (CUT [0,1,5,18,25] (λa=>IA 5 (b 0) (b 5) λc=>zL 0 c λc=>BO .eql c (I 2) λc=>GT c true (IA 5 (b 0) (b 5) λd=>zL 1 d λd=>BO .eql d (b 1) λd=>a [(b 0),(b 1),(b 5),c,d]) (a [(b 0),(b 1),(b 5),c,U])) λb=>zA (b 18) (b 25) λc=>IF c (K (b 5)) (BO .add (b 5) (I 1) λc=>a [(b 0),(b 1),c])) (K (I (-1)))) [a0,a1,(I 1)]
theorem TL {a0 a1:Value}:zG N7 [a0,a1] (NH a0 a1):=zG.mk { at_:=[(4,[0,1,5])],rg:=[(4,[(14,[0,1,5,18,25])])] } func290 (by kernel_rfl) λ_=>by kernel_rfl
def M5 (a0:Value) (K:Value→M):M:=
 BS 66 0 (ZR 0 z66) [] λa=>AP 66 5 40 (cl z66) a a0 λa=>K a
theorem QK {a0:Value}:zG Ly [a0] (M5 a0):=zG.mk {} func291 (by kernel_rfl) λ_=>by kernel_rfl
def Fh (a0 a1:Value) (K:Value→M):M:=
 CUT [0,1,11,13] (λa=>CA P 82 [a0] λb=>NT b λb=>GT b false (BO .lss a1 (I 1) λc=>a [a0,a1,b,c]) (a [a0,a1,b,U])) λa=>CUT [0,1,15,19] (λb=>zP (a 11) (a 13) λc=>GT c false (LN (a 0) λd=>BO .geq (a 1) d λd=>b [(a 0),(a 1),c,d]) (b [(a 0),(a 1),c,U])) λa=>CUT [0,1,21,27] (λb=>zP (a 15) (a 19) λc=>GT c false (IA 5 (a 0) (a 1) λd=>zL 0 d λd=>BO .neq d (I 2) λd=>b [(a 0),(a 1),c,d]) (b [(a 0),(a 1),c,U])) λa=>zP (a 21) (a 27) λb=>IF b (K (.tuple #[(.slice none 0 0),(.bool false)])) (CA P 291 [(a 0)] λb=>IA 5 b (a 1) λc=>LA 5 c λc=>AL 66 z66 λd=>ST 5 d c<|zS 0 d (I 3)<|zS 1 d (I (-1))<|LA 5 d λc=>IA 5 b (a 1) λa=>ST 5 a c<|K (.tuple #[b,(.bool true)]))
theorem KX {a0 a1:Value}:zG GD [a0,a1] (Fh a0 a1):=zG.mk { rg:=[(1,[(6,[0,1,11,13]),(6,[0,1,15,19]),(8,[0,1,21,27])])] } func292 (by kernel_rfl) λ_=>by kernel_rfl
def Gm (a0 a1:Value) (K:Value→M):M:=
 CUT [0,1,12,14] (λa=>CA P 82 [a0] λb=>NT b λb=>GT b false (BO .lss a1 (I 0) λc=>a [a0,a1,b,c]) (a [a0,a1,b,U])) λa=>CUT [0,1,16,18] (λb=>zP (a 12) (a 14) λc=>GT c false (BO .gtr (a 1) (I 3) λd=>b [(a 0),(a 1),c,d]) (b [(a 0),(a 1),c,U])) λa=>CUT [0,1,20,24] (λb=>zP (a 16) (a 18) λc=>GT c false (CA P 290 [(a 0),(a 1)] λd=>BO .geq d (I 0) λd=>b [(a 0),(a 1),c,d]) (b [(a 0),(a 1),c,U])) λa=>zP (a 20) (a 24) λb=>IF b (K (.tuple #[(.slice none 0 0),(I 0),(.bool false)])) (CUT [] (λb=>LP [0,1,7] (λa c=>LN (c 0) λd=>BO .lss (c 7) d λd=>IF d (IA 5 (c 0) (c 7) λb=>zL 0 b λb=>BO .eql b (I 1) λb=>IF b (CA P 291 [(c 0)] λa=>CA P 80 [(c 7)] λb=>CA P 80 [(c 7)] λd=>BD (cl z66) [(0,1,(I 2)),(1,1,(c 1)),(2,1,b),(3,1,d)] λb=>IA 5 a (c 7) λd=>ST 5 d b<|K (.tuple #[a,(c 7),(.bool true)])) (BO .add (c 7) (I 1) λb=>a [(c 0),(c 1),b])) (b [])) [(a 0),(a 1),(I 1)]) λa=>K (.tuple #[(.slice none 0 0),(I 0),(.bool false)]))
theorem Ma {a0 a1:Value}:zG Gt [a0,a1] (Gm a0 a1):=zG.mk { at_:=[(4,[]),(7,[0,1,7])],rg:=[(1,[(6,[0,1,12,14]),(4,[0,1,16,18]),(6,[0,1,20,24])])] } func293 (by kernel_rfl) λ_=>by kernel_rfl
def IM (a0:Value) (K:Value→M):M:=
 zN 4 a0 λa=>zL 2 a λa=>LN a λa=>MS 4 1 1 (cl z4) a a λa=>zN 4 a0 λb=>zS 2 b a<|K (.tuple #[])
theorem OH {a0:Value}:zG Hb [a0] (IM a0):=zG.mk {} func294 (by kernel_rfl) λ_=>by kernel_rfl
def FT (a0 a1 a2:Value) (K:Value→M):M:=
 CA P 82 [a0] λa=>NT a λa=>IF a (K (.tuple #[(.slice none 0 0),(.slice none 0 0)])) (CUT [8,9] (λa=>CUT [8,9] (λa=>LP [0,2,8,9,10,11] (λb c=>BO .leq (c 11) (I 16) λd=>IF d (CUT [0,2,8,9,10,11] (λa=>CUT [0,2,8,9,10,11] (λa=>CUT [0,2,8,9,10,11] (λa=>LP [0,2,8,9,10,11,12] (λb c=>LN (c 0) λd=>BO .lss (c 12) d λd=>IF d (CUT [0,2,8,9,10,11,12] (λa=>CUT [0,2,8,9,10,11,12] (λa=>IA 5 (c 0) (c 12) λb=>LA 5 b λb=>AL 66 z66 λd=>ST 5 d b<|CUT [0,2,8,9,10,11,12,62] (λa=>CUT [0,2,8,9,10,11,12,13,35,40] (λa=>zL 0 d λb=>BO .neq b (I 3) λb=>GT b false (zL 2 d λe=>zL 3 d λf=>BO .neq e f λe=>a [(c 0),(c 2),(c 8),(c 9),(c 10),(c 11),(c 12),d,b,e]) (a [(c 0),(c 2),(c 8),(c 9),(c 10),(c 11),(c 12),d,b,U])) λb=>CUT [0,2,8,9,10,11,12,13,42,46] (λa=>zP (b 35) (b 40) λc=>GT c false (zL 4 (b 13) λd=>BO .neq d (b 11) λd=>a [(b 0),(b 2),(b 8),(b 9),(b 10),(b 11),(b 12),(b 13),c,d]) (a [(b 0),(b 2),(b 8),(b 9),(b 10),(b 11),(b 12),(b 13),c,U])) λb=>CUT [0,2,8,9,10,11,12,48,49,50,51,52,53] (λa=>zP (b 42) (b 46) λc=>GT c false (FO 4 (b 13) λd=>L1 d λe=>FO 2 (b 13) λf=>L1 f λg=>a [(b 0),(b 2),(b 8),(b 9),(b 10),(b 11),(b 12),c,d,e,f,g,(b 12)]) (a [(b 0),(b 2),(b 8),(b 9),(b 10),(b 11),(b 12),c,U,U,U,U,U])) λb=>GT (b 48) false (CA P 80 [(b 53)] λc=>CUT [0,2,8,9,10,11,12,48,49,50,51,52,56] (λa=>GT (b 48) false (BO .sub (b 52) c λc=>BO .geq (b 50) c λc=>a [(b 0),(b 2),(b 8),(b 9),(b 10),(b 11),(b 12),(b 48),(b 49),(b 50),(b 51),(b 52),c]) (a [(b 0),(b 2),(b 8),(b 9),(b 10),(b 11),(b 12),(b 48),(b 49),(b 50),(b 51),(b 52),U])) λb=>CUT [0,2,8,9,10,11,12,48,49,50,51,52,58,59,60] (λa=>zP (b 48) (b 56) λc=>GT c false (a [(b 0),(b 2),(b 8),(b 9),(b 10),(b 11),(b 12),(b 48),(b 49),(b 50),(b 51),(b 52),c,(b 2),(b 12)]) (a [(b 0),(b 2),(b 8),(b 9),(b 10),(b 11),(b 12),(b 48),(b 49),(b 50),(b 51),(b 52),c,U,U])) λb=>AND (GT (b 48) false (L1 (b 49) λa=>EV a (b 50)) (EV U (b 50)))<|AND (GT (b 48) false (L1 (b 51) λa=>EV a (b 52)) (EV U (b 52)))<|GT (b 58) false (CA P 314 [(b 59),(b 60)] λc=>zP (b 58) c λc=>a [(b 0),(b 2),(b 8),(b 9),(b 10),(b 11),(b 12),c]) (zP (b 58) U λc=>a [(b 0),(b 2),(b 8),(b 9),(b 10),(b 11),(b 12),c])) (CUT [0,2,8,9,10,11,12,48,49,50,51,52,56] (λa=>GT (b 48) false (BO .sub (b 52) U λc=>BO .geq (b 50) c λc=>a [(b 0),(b 2),(b 8),(b 9),(b 10),(b 11),(b 12),(b 48),(b 49),(b 50),(b 51),(b 52),c]) (a [(b 0),(b 2),(b 8),(b 9),(b 10),(b 11),(b 12),(b 48),(b 49),(b 50),(b 51),(b 52),U])) λb=>CUT [0,2,8,9,10,11,12,48,49,50,51,52,58,59,60] (λa=>zP (b 48) (b 56) λc=>GT c false (a [(b 0),(b 2),(b 8),(b 9),(b 10),(b 11),(b 12),(b 48),(b 49),(b 50),(b 51),(b 52),c,(b 2),(b 12)]) (a [(b 0),(b 2),(b 8),(b 9),(b 10),(b 11),(b 12),(b 48),(b 49),(b 50),(b 51),(b 52),c,U,U])) λb=>AND (GT (b 48) false (L1 (b 49) λa=>EV a (b 50)) (EV U (b 50)))<|AND (GT (b 48) false (L1 (b 51) λa=>EV a (b 52)) (EV U (b 52)))<|GT (b 58) false (CA P 314 [(b 59),(b 60)] λc=>zP (b 58) c λc=>a [(b 0),(b 2),(b 8),(b 9),(b 10),(b 11),(b 12),c]) (zP (b 58) U λc=>a [(b 0),(b 2),(b 8),(b 9),(b 10),(b 11),(b 12),c]))) λb=>IF (b 62) (a [(b 0),(b 2),(b 8),(b 9),(b 10),(b 11),(b 12)]) (BO .eql (b 11) (I 0) λc=>IF c (BS 3 1 (ZR 1 z3) [(0,1,(b 12))] λc=>AP 3 1 8 (cl z3) (b 9) c λc=>a [(b 0),(b 2),(b 8),c,(b 10),(b 11),(b 12)]) (BO .leq (b 11) (b 10) λc=>IF c (BS 3 1 (ZR 1 z3) [(0,1,(b 12))] λc=>AP 3 1 8 (cl z3) (b 8) c λc=>BO .sub (b 10) (b 11) λd=>a [(b 0),(b 2),c,(b 9),d,(b 11),(b 12)]) (a [(b 0),(b 2),(b 8),(b 9),(b 10),(b 11),(b 12)])))) λb=>a [(b 0),(b 2),(b 8),(b 9),(b 10),(b 11),(b 12)]) λa=>BO .add (a 12) (I 1) λc=>b [(a 0),(a 2),(a 8),(a 9),(a 10),(a 11),c]) (a [(c 0),(c 2),(c 8),(c 9),(c 10),(c 11)])) [(c 0),(c 2),(c 8),(c 9),(c 10),(c 11),(I 1)]) λb=>a [(b 0),(b 2),(b 8),(b 9),(b 10),(b 11)]) λb=>a [(b 0),(b 2),(b 8),(b 9),(b 10),(b 11)]) λa=>BO .add (a 11) (I 1) λc=>b [(a 0),(a 2),(a 8),(a 9),(a 10),c]) (a [(c 8),(c 9)])) [a0,a2,(.slice none 0 0),(.slice none 0 0),a1,(I 0)]) λb=>a [(b 8),(b 9)]) λa=>K (.tuple #[(a 8),(a 9)]))
theorem KH {a0 a1 a2:Value}:zG FS [a0,a1,a2] (FT a0 a1 a2):=zG.mk { at_:=[(7,[8,9]),(9,[8,9]),(10,[0,2,8,9,10,11]),(13,[0,2,8,9,10,11]),(14,[0,2,8,9,10,11]),(16,[0,2,8,9,10,11]),(17,[0,2,8,9,10,11,12]),(20,[0,2,8,9,10,11,12]),(21,[0,2,8,9,10,11,12]),(24,[0,2,8,9,10,11,12,62])],dr:=[(13,[(0,[(9,[0,2,8,9,10,11,12,13,35,40]),(6,[0,2,8,9,10,11,12,13,42,46]),(7,[0,2,8,9,10,11,12,48,49,50,51,52,53])]),(4194304,[(2,[0,2,8,9,10,11,12,48,49,50,51,52,56]),(4,[0,2,8,9,10,11,12,48,49,50,51,52,58,59,60])])])] } func295 (by kernel_rfl) λ_=>by kernel_rfl
def Gs (a0 a1:Value) (K:Value→M):M:=
 CUT [0,1,10,12] (λa=>CA P 82 [a0] λb=>NT b λb=>GT b false (BO .lss a1 (I 1) λc=>a [a0,a1,b,c]) (a [a0,a1,b,U])) λa=>CUT [0,1,14,18] (λb=>zP (a 10) (a 12) λc=>GT c false (LN (a 0) λd=>BO .geq (a 1) d λd=>b [(a 0),(a 1),c,d]) (b [(a 0),(a 1),c,U])) λa=>CUT [0,1,20,26] (λb=>zP (a 14) (a 18) λc=>GT c false (IA 5 (a 0) (a 1) λd=>zL 0 d λd=>BO .eql d (I 1) λd=>b [(a 0),(a 1),c,d]) (b [(a 0),(a 1),c,U])) λa=>zP (a 20) (a 26) λb=>IF b (K (.tuple #[(.slice none 0 0),(.bool false)])) (CA P 291 [(a 0)] λb=>CA P 80 [(a 1)] λc=>CA P 80 [(a 1)] λd=>BD (cl z66) [(0,1,(I 1)),(1,1,(I (-1))),(2,1,c),(3,1,d)] λc=>IA 5 b (a 1) λa=>ST 5 a c<|K (.tuple #[b,(.bool true)]))
theorem MN {a0 a1:Value}:zG Gc [a0,a1] (Gs a0 a1):=zG.mk { rg:=[(1,[(6,[0,1,10,12]),(6,[0,1,14,18]),(8,[0,1,20,26])])] } func296 (by kernel_rfl) λ_=>by kernel_rfl
def Kq (a0:Value) (K:Value→M):M:=
 CA P 294 [a0] λa=>zN 4 a0 λa=>zS 3 a (I 0)<|zN 18 a0 λa=>zL 1 a λa=>BD (cl HB) [(1,1,a)] λa=>zN 18 a0 λb=>ST 15 b a<|zN 4 a0 λa=>zL 11 a λa=>BO .add a (I 1) λa=>zN 4 a0 λb=>zS 11 b a<|LP [0,2] (λa b=>zN 4 (b 0) λc=>zL 1 c λc=>LN c λc=>BO .lss (b 2) c λc=>IF c (zN 4 (b 0) λc=>zL 1 c λc=>IA 5 c (b 2) λc=>LA 5 c λc=>AL 66 z66 λd=>ST 5 d c<|zS 4 d (I 0)<|zN 4 (b 0) λc=>zL 1 c λc=>LA 5 d λd=>IA 5 c (b 2) λc=>ST 5 c d<|BO .add (b 2) (I 1) λc=>a [(b 0),c]) (K (.tuple #[]))) [a0,(I 1)]
theorem Qf {a0:Value}:zG MB [a0] (Kq a0):=zG.mk { at_:=[(6,[0,2])] } func297 (by kernel_rfl) λ_=>by kernel_rfl
def MF (a0:Value) (K:Value→M):M:=
 AL 165 a0 λa=>AL 165 HB λb=>zL 6 a λc=>BO .add c (I 1) λc=>zS 6 a c<|zS 0 a (I 7)<|CUT [1,2] (λc=>zL 6 a λd=>FO 7 a λe=>zL 0 e λe=>BO .eql d e λd=>IF d (zS 0 a (I 6)<|c [a,b]) (c [a,b])) λa=>LA 15 (a 1) λb=>ST 15 (a 2) b<|LA 15 (a 2) λa=>K a
theorem RD {a0:Value}:zG Lu [a0] (MF a0):=zG.mk { at_:=[(3,[1,2])] } func298 (by kernel_rfl) λ_=>by kernel_rfl
def N6 (a0 a1:Value) (K:Value→M):M:=
 LP [0,1,5] (λa b=>LN (b 0) λc=>BO .lss (b 5) c λc=>IF c (zI 1 (b 0) (b 5) λc=>BO .eql c (b 1) λc=>IF c (K (.bool true)) (BO .add (b 5) (I 1) λc=>a [(b 0),(b 1),c])) (K (.bool false))) [a0,a1,(I 0)]
theorem SR {a0 a1:Value}:zG NJ [a0,a1] (N6 a0 a1):=zG.mk { at_:=[(4,[0,1,5])] } func314 (by kernel_rfl) λ_=>by kernel_rfl
end Go.Lf
end
section
namespace Go.Lf
open Go Go.Proofs Go.Proofs.Tryz
def F4 (a0:Value) (K:Value→M):M:=
 LN a0 λa=>BO .gtr a (I 1048576) λa=>IF a (K (.bool true)) (CA P 31 [a0] λa=>AL 28 z28 λb=>ST 13 b a<|LA 13 b λa=>CA P 32 [a] λa=>EX 0 a λc=>EX 1 a λa=>LA 13 b λd=>CA P 33 [d] λd=>EX 0 d λe=>EX 1 d λd=>CUT [3,4,5,28,31] (λf=>BO .neq c e λe=>GT e false (BO .neq a d λd=>f [b,c,a,e,d]) (f [b,c,a,e,U])) λa=>zP (a 28) (a 31) λb=>IF b (K (.bool false)) (LA 13 (a 3) λb=>CA P 34 [b] λb=>NT b λb=>IF b (CUT [38,40] (λb=>BO .eql (a 4) (I 0) λc=>GT c true (BO .eql (a 5) (I 0) λa=>b [c,a]) (b [c,U])) λa=>zA (a 38) (a 40) λa=>K a) (LA 13 (a 3) λb=>CA P 35 [b] λb=>EX 0 b λc=>EX 1 b λb=>CUT [4,5,50,53] (λd=>BO .eql (a 4) c λc=>GT c true (BO .eql (a 5) b λb=>d [(a 4),(a 5),c,b]) (d [(a 4),(a 5),c,U])) λa=>CUT [55,58] (λb=>zA (a 50) (a 53) λc=>GT c true (BO .leq (a 4) (a 5) λa=>b [c,a]) (b [c,U])) λa=>zA (a 55) (a 58) λa=>K a)))
theorem Iu {a0:Value}:zG Ez [a0] (F4 a0):=zG.mk { rg:=[(6,[(7,[3,4,5,28,31])]),(9,[(5,[38,40])]),(11,[(7,[4,5,50,53]),(5,[55,58])])] } func6 (by kernel_rfl) λ_=>by kernel_rfl
def IY (a0:Value) (K:Value→M):M:=
 AL 33 a0 λa=>AL 28 z28 λb=>LA 3 a λc=>CA P 60 [c] λc=>NT c λc=>IF c (BD (cl z28) [] λa=>ST 13 b a<|LA 13 b λa=>K (.tuple #[a,(.bool false)])) (zL 0 a λc=>CA P 61 [c] λc=>EX 0 c λd=>EX 1 c λc=>CUT [1,2,6] (λc=>FO 0 a λe=>L1 e λf=>BO .mul f (I 16) λg=>FO 0 a λh=>L1 h λi=>BO .mul i (I 16) λj=>ALL [MS 3 1 8 (cl z3) g g λk=>AND (L1 h λa=>EV a i)<|ALL [MS 4 1 1 (cl z4) j j λe=>BD (cl z28) [(0,1,k),(1,1,d),(2,1,e)] λe=>AL 28 z28 λf=>ST 13 f e<|c [a,b,f],
 AL 28 z28 λe=>AND (L1 h λa=>EV a i)<|MS 4 1 1 (cl z4) j j λf=>BD (cl z28) [(0,1,k),(1,1,d),(2,1,f)] λd=>ST 13 e d<|c [a,b,e]],
 MS 4 1 1 (cl z4) j j λk=>AND (L1 e λa=>EV a f)<|ALL [MS 3 1 8 (cl z3) g g λh=>BD (cl z28) [(0,1,h),(1,1,d),(2,1,k)] λh=>AL 28 z28 λi=>ST 13 i h<|c [a,b,i],
 AL 28 z28 λh=>AND (L1 e λa=>EV a f)<|MS 3 1 8 (cl z3) g g λe=>BD (cl z28) [(0,1,e),(1,1,d),(2,1,k)] λd=>ST 13 h d<|c [a,b,h]],
 AL 28 z28 λk=>AND (L1 e λa=>EV a f)<|AND (L1 h λa=>EV a i)<|ALL [MS 3 1 8 (cl z3) g g λl=>AND (L1 h λa=>EV a i)<|MS 4 1 1 (cl z4) j j λh=>BD (cl z28) [(0,1,l),(1,1,d),(2,1,h)] λh=>ST 13 k h<|c [a,b,k],
 MS 4 1 1 (cl z4) j j λh=>AND (L1 e λa=>EV a f)<|MS 3 1 8 (cl z3) g g λe=>BD (cl z28) [(0,1,e),(1,1,d),(2,1,h)] λd=>ST 13 k d<|c [a,b,k]]]) λa=>BD (cl z60) [(0,1,(I 4)),(1,1,(I 2))] λb=>AL 60 z60 λc=>ST 2 c b<|zL 0 (a 6) λb=>LA 2 c λd=>CA P 62 [b,(I 16),d] λb=>EX 0 b λd=>EX 1 b λb=>zS 0 (a 6) d<|LA 2 c λb=>CA P 63 [b] λb=>BO .add (I 16) b λb=>zL 1 (a 6) λc=>BD (cl z66) [(0,1,(I 3)),(1,1,(I (-1))),(2,1,b),(3,1,b)] λb=>IA 5 c (I 1) λc=>ST 5 c b<|CUT [2,6] (λb=>CUT [2,6] (λb=>LP [1,2,6,11] (λa c=>zL 1 (c 1) λd=>BO .lss (c 11) d λd=>IF d (zL 8 (c 6) λb=>BS 3 1 (ZR 1 z3) [(0,1,(I 16))] λd=>BD (cl z83) [(0,1,d)] λd=>BS 83 1 (ZR 1 z83) [(0,4,d)] λd=>AP 83 4 48 (cl z83) b d λb=>zS 8 (c 6) b<|BO .add (c 11) (I 1) λb=>a [(c 1),(c 2),(c 6),b]) (b [(c 2),(c 6)])) [(a 1),(a 2),(a 6),(I 0)]) λa=>b [(a 2),(a 6)]) λa=>LA 13 (a 6) λb=>ST 13 (a 2) b<|LA 13 (a 2) λa=>K (.tuple #[a,(.bool true)]))
theorem O2 {a0:Value}:zG Hs [a0] (IY a0):=zG.mk { at_:=[(5,[1,2,6]),(11,[2,6]),(13,[2,6]),(14,[1,2,6,11])] } func19 (by kernel_rfl) λ_=>by kernel_rfl
def IW (a0:Value) (K:Value→M):M:=
 AL 28 a0 λa=>LA 13 a λa=>CA P 55 [a] λa=>X P (do eqGuard .eql 86 (.tmp 7) (.const (.pointer none)) a (.pointer none);binOp .eql 86 a (.pointer none)) λb=>IF b (K (.tuple #[(.slice none 0 0),(.bool false)])) (CA P 65 [a] λa=>K (.tuple #[a,(.bool true)]))
theorem OJ {a0:Value}:zG Ho [a0] (IW a0):=zG.mk {} func30 (by kernel_rfl) λ_=>by kernel_rfl
def EH (a0:Value) (K:Value→M):M:=
 AL 28 z28 λa=>CA P 45 [a0] λb=>CA P 46 [b] λb=>ST 13 a b<|LA 13 a λa=>K a
theorem HI {a0:Value}:zG EQ [a0] (EH a0):=zG.mk {} func31 (by kernel_rfl) λ_=>by kernel_rfl
def Fs (a0:Value) (K:Value→M):M:=
 AL 28 a0 λa=>LA 13 a λa=>CA P 55 [a] λa=>X P (do eqGuard .eql 86 (.tmp 13) (.const (.pointer none)) a (.pointer none);binOp .eql 86 a (.pointer none)) λb=>IF b (K (.tuple #[(I 0),(I 0)])) (CUT [4,5,6] (λb=>zM 14 a λc=>LN c λd=>CUT [4,5,6] (λb=>LP [4,5,6,18,19,20] (λa c=>BO .lss (c 20) (c 19) λd=>IF d (zI 1 (c 18) (c 20) λb=>zM 13 (c 4) λd=>X P (Instr.lookup 73 d b false) λb=>CA P 78 [b] λb=>BO .add (c 5) b λb=>BO .add (c 20) (I 1) λd=>a [(c 4),b,(c 6),(c 18),(c 19),d]) (b [(c 4),(c 5),(c 6)])) [a,(I 0),(I 0),c,d,(I 0)]) λa=>b [(a 4),(a 5),(a 6)]) λa=>CUT [5,6] (λb=>zM 13 (a 4) λc=>X P (Instr.range 73 c) λc=>CUT [5,6] (λb=>LP [5,6,38] (λa c=>X P (Instr.next (c 38) false 0) λd=>EX 0 d λd=>IF d (X P (Instr.entry (c 38)) λb=>EX 1 b λb=>AL 62 z62 λd=>ST 6 d b<|LA 6 d λb=>CA P 78 [b] λb=>BO .add (c 6) b λb=>a [(c 5),b,(c 38)]) (b [(c 5),(c 6)])) [(a 5),(a 6),c]) λa=>b [(a 5),(a 6)]) λa=>K (.tuple #[(a 5),(a 6)]))
theorem Ln {a0:Value}:zG Fx [a0] (Fs a0):=zG.mk { at_:=[(6,[4,5,6]),(8,[4,5,6]),(9,[4,5,6,18,19,20]),(15,[5,6]),(17,[5,6]),(18,[5,6,38])] } func32 (by kernel_rfl) λ_=>by kernel_rfl
def GB (a0:Value) (K:Value→M):M:=
 AL 28 a0 λa=>LA 13 a λb=>CA P 37 [b] λb=>EX 0 b λc=>EX 1 b λb=>NT b λb=>IF b (K (.tuple #[(I 0),(I 0)])) (CUT [1,6] (λb=>CUT [1,6] (λb=>LP [1,4,6,7] (λa c=>LN (c 4) λd=>BO .lss (c 7) d λd=>IF d (CUT [1,4,6,7,8] (λa=>FO 0 (c 1) λb=>L1 b λd=>IA 1 (c 4) (c 7) λe=>L1 e λf=>ALL [CA P 79 [d,f] λg=>EX 0 g λh=>EX 1 g λg=>AL 62 z62 λg=>ST 6 g h<|a [(c 1),(c 4),(c 6),(c 7),g],
 AL 62 z62 λg=>AND (L1 b λa=>EV a d)<|AND (L1 e λa=>EV a f)<|CA P 79 [d,f] λb=>EX 0 b λd=>EX 1 b λb=>ST 6 g d<|a [(c 1),(c 4),(c 6),(c 7),g]]) λb=>FO 2 (b 8) λc=>LA 2 c λc=>CA P 63 [c] λc=>BO .add (b 6) c λc=>BO .add (b 7) (I 1) λd=>a [(b 1),(b 4),c,d]) (b [(c 1),(c 6)])) [a,c,(I 0),(I 0)]) λa=>b [(a 1),(a 6)]) λa=>CUT [6,10] (λb=>CUT [6,10] (λb=>LP [1,6,10,11] (λa c=>zL 1 (c 1) λd=>LN d λd=>BO .lss (c 11) d λd=>IF d (FO 1 (c 1) λb=>L1 b λd=>IA 5 d (c 11) λe=>FO 2 e λe=>L1 e λf=>BO .add (c 10) f λg=>CA P 80 [(c 11)] λh=>BO .sub g h λg=>AND (L1 b λa=>EV a d)<|AND (L1 e λa=>EV a f)<|BO .add (c 11) (I 1) λb=>a [(c 1),(c 6),g,b]) (b [(c 6),(c 10)])) [(a 1),(a 6),(I 0),(I 1)]) λa=>b [(a 6),(a 10)]) λa=>K (.tuple #[(a 6),(a 10)]))
theorem KT {a0:Value}:zG G3 [a0] (GB a0):=zG.mk { at_:=[(6,[1,6]),(8,[1,6]),(9,[1,4,6,7]),(14,[1,4,6,7,8]),(16,[6,10]),(18,[6,10]),(19,[1,6,10,11])] } func33 (by kernel_rfl) λ_=>by kernel_rfl
def Jf (a0:Value) (K:Value→M):M:=
 AL 28 a0 λa=>CUT [1,20,24] (λb=>zL 0 a λc=>CA P 81 [c] λc=>NT c λc=>GT c false (zL 1 a λd=>CA P 82 [d] λd=>NT d λd=>b [a,c,d]) (b [a,c,U])) λa=>CUT [1,26,34] (λb=>zP (a 20) (a 24) λc=>GT c false (zL 1 (a 1) λd=>LN d λd=>BO .mul d (I 16) λd=>zL 0 (a 1) λe=>LN e λe=>BO .neq d e λd=>b [(a 1),c,d]) (b [(a 1),c,U])) λa=>CUT [1,36,43] (λb=>zP (a 26) (a 34) λc=>GT c false (zL 2 (a 1) λd=>LN d λd=>zL 0 (a 1) λe=>LN e λe=>BO .neq d e λd=>b [(a 1),c,d]) (b [(a 1),c,U])) λa=>zP (a 36) (a 43) λb=>IF b (K (.bool false)) (CUT [1,48,51] (λb=>zL 3 (a 1) λc=>BO .lss c (I 0) λc=>GT c false (zL 3 (a 1) λd=>BO .gtr d (I 3) λd=>b [(a 1),c,d]) (b [(a 1),c,U])) λa=>CUT [1,53,57] (λb=>zP (a 48) (a 51) λc=>GT c false (zL 8 (a 1) λd=>LN d λd=>BO .lss d (I 1) λd=>b [(a 1),c,d]) (b [(a 1),c,U])) λa=>CUT [1,59,63] (λb=>zP (a 53) (a 57) λc=>GT c false (zL 8 (a 1) λd=>LN d λd=>BO .gtr d (I 3) λd=>b [(a 1),c,d]) (b [(a 1),c,U])) λa=>zP (a 59) (a 63) λb=>IF b (K (.bool false)) (LA 13 (a 1) λb=>CA P 51 [b] λb=>EX 0 b λc=>EX 1 b λb=>NT b λb=>IF b (K (.bool false)) (CUT [1,3] (λb=>CUT [1,3] (λb=>LP [1,3,5] (λa c=>LN (c 3) λd=>BO .lss (c 5) d λd=>IF d (IA 6 (c 3) (c 5) λb=>zL 1 b λb=>CA P 53 [(c 3),b] λb=>CUT [1,3,5,6,112] (λa=>CUT [1,3,5,6,87,98] (λa=>BO .lss b (I 0) λd=>GT d false (IA 6 (c 3) b λe=>zL 1 e λe=>IA 6 (c 3) b λf=>zL 0 f λf=>BO .neq e f λe=>a [(c 1),(c 3),(c 5),b,d,e]) (a [(c 1),(c 3),(c 5),b,d,U])) λb=>CUT [1,3,5,6,100,105,110] (λa=>zP (b 87) (b 98) λc=>GT c false (IA 6 (b 3) (b 6) λd=>FO 2 d λd=>LA 2 d λd=>IA 6 (b 3) (b 5) λe=>FO 2 e λe=>LA 2 e λe=>a [(b 1),(b 3),(b 5),(b 6),c,d,e]) (a [(b 1),(b 3),(b 5),(b 6),c,U,U])) λb=>GT (b 100) false (X P (do eqGuard .neq 60 (.tmp 105) (.tmp 110) (b 105) (b 110);binOp .neq 60 (b 105) (b 110)) λc=>zP (b 100) c λc=>a [(b 1),(b 3),(b 5),(b 6),c]) (zP (b 100) U λc=>a [(b 1),(b 3),(b 5),(b 6),c])) λb=>IF (b 112) (K (.bool false)) (CUT [1,3,5,143] (λa=>CUT [1,3,5,6,116,117,118,123] (λa=>BO .neq (b 6) (b 5) λc=>GT c true (FO 1 (b 1) λd=>L1 d λe=>IA 6 (b 3) (b 5) λf=>zL 0 f λf=>a [(b 1),(b 3),(b 5),(b 6),c,d,e,f]) (a [(b 1),(b 3),(b 5),(b 6),c,U,U,U])) λb=>GT (b 116) true (CA P 54 [(b 123)] λc=>CUT [1,3,5,116,117,118,129,130,131,136] (λa=>GT (b 116) true (IA 5 (b 118) c λc=>zL 0 c λc=>BO .neq c (I 4) λc=>GT c false (FO 1 (b 1) λd=>L1 d λe=>IA 6 (b 3) (b 6) λf=>zL 0 f λf=>a [(b 1),(b 3),(b 5),(b 116),(b 117),(b 118),c,d,e,f]) (a [(b 1),(b 3),(b 5),(b 116),(b 117),(b 118),c,U,U,U])) (a [(b 1),(b 3),(b 5),(b 116),(b 117),(b 118),U,U,U,U])) λb=>AND (GT (b 116) true (L1 (b 117) λa=>EV a (b 118)) (EV U (b 118)))<|GT (b 129) false (CA P 54 [(b 136)] λc=>CUT [1,3,5,116,129,130,131,141] (λa=>GT (b 129) false (IA 5 (b 131) c λc=>zL 0 c λc=>BO .eql c (I 4) λc=>a [(b 1),(b 3),(b 5),(b 116),(b 129),(b 130),(b 131),c]) (a [(b 1),(b 3),(b 5),(b 116),(b 129),(b 130),(b 131),U])) λb=>CUT [1,3,5,116,129,130,131,142] (λa=>GT (b 116) true (zP (b 129) (b 141) λc=>a [(b 1),(b 3),(b 5),(b 116),(b 129),(b 130),(b 131),c]) (a [(b 1),(b 3),(b 5),(b 116),(b 129),(b 130),(b 131),U])) λb=>zA (b 116) (b 142) λc=>AND (GT (b 129) false (L1 (b 130) λa=>EV a (b 131)) (EV U (b 131)))<|a [(b 1),(b 3),(b 5),c]) (CUT [1,3,5,116,129,130,131,141] (λa=>GT (b 129) false (IA 5 (b 131) U λc=>zL 0 c λc=>BO .eql c (I 4) λc=>a [(b 1),(b 3),(b 5),(b 116),(b 129),(b 130),(b 131),c]) (a [(b 1),(b 3),(b 5),(b 116),(b 129),(b 130),(b 131),U])) λb=>CUT [1,3,5,116,129,130,131,142] (λa=>GT (b 116) true (zP (b 129) (b 141) λc=>a [(b 1),(b 3),(b 5),(b 116),(b 129),(b 130),(b 131),c]) (a [(b 1),(b 3),(b 5),(b 116),(b 129),(b 130),(b 131),U])) λb=>zA (b 116) (b 142) λc=>AND (GT (b 129) false (L1 (b 130) λa=>EV a (b 131)) (EV U (b 131)))<|a [(b 1),(b 3),(b 5),c])) (CUT [1,3,5,116,117,118,129,130,131,136] (λa=>GT (b 116) true (IA 5 (b 118) U λc=>zL 0 c λc=>BO .neq c (I 4) λc=>GT c false (FO 1 (b 1) λd=>L1 d λe=>IA 6 (b 3) (b 6) λf=>zL 0 f λf=>a [(b 1),(b 3),(b 5),(b 116),(b 117),(b 118),c,d,e,f]) (a [(b 1),(b 3),(b 5),(b 116),(b 117),(b 118),c,U,U,U])) (a [(b 1),(b 3),(b 5),(b 116),(b 117),(b 118),U,U,U,U])) λb=>AND (GT (b 116) true (L1 (b 117) λa=>EV a (b 118)) (EV U (b 118)))<|GT (b 129) false (CA P 54 [(b 136)] λc=>CUT [1,3,5,116,129,130,131,141] (λa=>GT (b 129) false (IA 5 (b 131) c λc=>zL 0 c λc=>BO .eql c (I 4) λc=>a [(b 1),(b 3),(b 5),(b 116),(b 129),(b 130),(b 131),c]) (a [(b 1),(b 3),(b 5),(b 116),(b 129),(b 130),(b 131),U])) λb=>CUT [1,3,5,116,129,130,131,142] (λa=>GT (b 116) true (zP (b 129) (b 141) λc=>a [(b 1),(b 3),(b 5),(b 116),(b 129),(b 130),(b 131),c]) (a [(b 1),(b 3),(b 5),(b 116),(b 129),(b 130),(b 131),U])) λb=>zA (b 116) (b 142) λc=>AND (GT (b 129) false (L1 (b 130) λa=>EV a (b 131)) (EV U (b 131)))<|a [(b 1),(b 3),(b 5),c]) (CUT [1,3,5,116,129,130,131,141] (λa=>GT (b 129) false (IA 5 (b 131) U λc=>zL 0 c λc=>BO .eql c (I 4) λc=>a [(b 1),(b 3),(b 5),(b 116),(b 129),(b 130),(b 131),c]) (a [(b 1),(b 3),(b 5),(b 116),(b 129),(b 130),(b 131),U])) λb=>CUT [1,3,5,116,129,130,131,142] (λa=>GT (b 116) true (zP (b 129) (b 141) λc=>a [(b 1),(b 3),(b 5),(b 116),(b 129),(b 130),(b 131),c]) (a [(b 1),(b 3),(b 5),(b 116),(b 129),(b 130),(b 131),U])) λb=>zA (b 116) (b 142) λc=>AND (GT (b 129) false (L1 (b 130) λa=>EV a (b 131)) (EV U (b 131)))<|a [(b 1),(b 3),(b 5),c]))) λb=>IF (b 143) (K (.bool false)) (BO .add (b 5) (I 1) λc=>a [(b 1),(b 3),c]))) (b [(c 1),(c 3)])) [(a 1),c,(I 0)]) λa=>b [(a 1),(a 3)]) λa=>CUT [1,3,7] (λb=>CUT [1,3,7] (λb=>LP [1,3,7,8] (λa c=>zL 8 (c 1) λd=>LN d λd=>BO .lss (c 8) d λd=>IF d (CUT [1,3,7,8] (λa=>CUT [1,3,7,8] (λa=>zL 8 (c 1) λb=>IA 4 b (c 8) λb=>LA 4 b λb=>AL 83 z83 λd=>ST 4 d b<|CUT [1,3,7,8,9,160,163] (λa=>zL 0 d λb=>LN b λb=>BO .gtr b (I 8) λb=>GT b false (zL 3 d λe=>BO .lss e (I 0) λe=>a [(c 1),(c 3),(c 7),(c 8),d,b,e]) (a [(c 1),(c 3),(c 7),(c 8),d,b,U])) λb=>CUT [1,3,7,8,9,165,168] (λa=>zP (b 160) (b 163) λc=>GT c false (zL 3 (b 9) λd=>BO .gtr d (I 2) λd=>a [(b 1),(b 3),(b 7),(b 8),(b 9),c,d]) (a [(b 1),(b 3),(b 7),(b 8),(b 9),c,U])) λb=>zP (b 165) (b 168) λc=>IF c (K (.bool false)) (CUT [1,3,7,8] (λa=>LP [1,3,7,8,9,10] (λb c=>zL 0 (c 9) λd=>LN d λd=>BO .lss (c 10) d λd=>IF d (CUT [1,3,7,8,9,10,183,191] (λa=>zL 0 (c 9) λb=>zI 1 b (c 10) λb=>BO .neq b (I 0) λb=>GT b true (zL 0 (c 9) λd=>zI 1 d (c 10) λd=>CA P 53 [(c 3),d] λd=>BO .lss d (I 0) λd=>a [(c 1),(c 3),(c 7),(c 8),(c 9),(c 10),b,d]) (a [(c 1),(c 3),(c 7),(c 8),(c 9),(c 10),b,U])) λa=>zA (a 183) (a 191) λc=>IF c (K (.bool false)) (zL 0 (a 9) λc=>zI 1 c (a 10) λc=>CA P 83 [(a 3),c] λc=>CA P 52 [(a 7),c] λc=>BO .add (a 10) (I 1) λd=>b [(a 1),(a 3),c,(a 8),(a 9),d])) (a [(c 1),(c 3),(c 7),(c 8)])) [(b 1),(b 3),(b 7),(b 8),(b 9),(I 0)]) λb=>a [(b 1),(b 3),(b 7),(b 8)])) λb=>a [(b 1),(b 3),(b 7),(b 8)]) λb=>BO .add (b 8) (I 1) λc=>a [(b 1),(b 3),(b 7),c]) (b [(c 1),(c 3),(c 7)])) [(a 1),(a 3),(.slice none 0 0),(I 0)]) λa=>b [(a 1),(a 3),(a 7)]) λa=>zL 10 (a 1) λb=>LN b λb=>BO .gtr b (I 8) λb=>IF b (K (.bool false)) (CUT [3,7] (λb=>CUT [3,7] (λb=>LP [1,3,7,11] (λa c=>zL 10 (c 1) λd=>LN d λd=>BO .lss (c 11) d λd=>IF d (zL 10 (c 1) λb=>zI 1 b (c 11) λb=>CA P 53 [(c 3),b] λb=>CUT [1,3,7,11,248] (λa=>CUT [1,3,7,11,12,222,233] (λa=>BO .lss b (I 0) λd=>GT d false (IA 6 (c 3) b λe=>zL 1 e λe=>IA 6 (c 3) b λf=>zL 0 f λf=>BO .neq e f λe=>a [(c 1),(c 3),(c 7),(c 11),b,d,e]) (a [(c 1),(c 3),(c 7),(c 11),b,d,U])) λb=>CUT [1,3,7,11,235,236,237,242] (λa=>zP (b 222) (b 233) λc=>GT c false (FO 1 (b 1) λd=>L1 d λe=>IA 6 (b 3) (b 12) λf=>zL 0 f λf=>a [(b 1),(b 3),(b 7),(b 11),c,d,e,f]) (a [(b 1),(b 3),(b 7),(b 11),c,U,U,U])) λb=>GT (b 235) false (CA P 54 [(b 242)] λc=>IA 5 (b 237) c λc=>zL 0 c λc=>BO .eql c (I 4) λc=>zP (b 235) c λc=>AND (L1 (b 236) λa=>EV a (b 237))<|a [(b 1),(b 3),(b 7),(b 11),c]) (zP (b 235) U λc=>AND (EV U (b 237))<|a [(b 1),(b 3),(b 7),(b 11),c])) λb=>IF (b 248) (K (.bool false)) (zL 10 (b 1) λc=>zI 1 c (b 11) λc=>CA P 52 [(b 7),c] λc=>BO .add (b 11) (I 1) λd=>a [(b 1),(b 3),c,d])) (b [(c 3),(c 7)])) [(a 1),(a 3),(a 7),(I 0)]) λa=>b [(a 3),(a 7)]) λa=>LP [3,7,13] (λa b=>LN (b 7) λc=>BO .lss (b 13) c λc=>IF c (CUT [3,7,13] (λa=>CUT [3,7,13] (λa=>zI 1 (b 7) (b 13) λc=>CA P 53 [(b 3),c] λc=>IA 6 (b 3) c λc=>LA 6 c λc=>AL 62 z62 λd=>ST 6 d c<|CUT [3,7,13] (λa=>LP [3,7,13,14,15] (λb c=>zL 4 (c 14) λd=>LN d λd=>BO .lss (c 15) d λd=>IF d (CUT [3,7,13,14,15,284,292] (λa=>zL 4 (c 14) λb=>zI 1 b (c 15) λb=>BO .neq b (I 0) λb=>GT b true (zL 4 (c 14) λd=>zI 1 d (c 15) λd=>CA P 53 [(c 3),d] λd=>BO .lss d (I 0) λd=>a [(c 3),(c 7),(c 13),(c 14),(c 15),b,d]) (a [(c 3),(c 7),(c 13),(c 14),(c 15),b,U])) λa=>zA (a 284) (a 292) λc=>IF c (K (.bool false)) (zL 4 (a 14) λc=>zI 1 c (a 15) λc=>CA P 83 [(a 3),c] λc=>CA P 52 [(a 7),c] λc=>BO .add (a 15) (I 1) λd=>b [(a 3),c,(a 13),(a 14),d])) (a [(c 3),(c 7),(c 13)])) [(b 3),(b 7),(b 13),d,(I 0)]) λb=>a [(b 3),(b 7),(b 13)]) λb=>a [(b 3),(b 7),(b 13)]) λb=>BO .add (b 13) (I 1) λc=>a [(b 3),(b 7),c]) (K (.bool true))) [(a 3),(a 7),(I 0)]))))
theorem Pj {a0:Value}:zG JU [a0] (Jf a0):=zG.mk { at_:=[(11,[1,3]),(13,[1,3]),(14,[1,3,5]),(21,[1,3,5,6,112]),(23,[1,3,5,143]),(26,[1,3,7]),(28,[1,3,7]),(29,[1,3,7,8]),(32,[1,3,7,8]),(33,[1,3,7,8]),(39,[1,3,7,8]),(40,[1,3,7,8,9,10]),(51,[3,7]),(53,[3,7]),(54,[1,3,7,11]),(61,[1,3,7,11,248]),(66,[3,7,13]),(69,[3,7,13]),(70,[3,7,13]),(73,[3,7,13]),(74,[3,7,13,14,15])],rg:=[(1,[(9,[1,20,24]),(10,[1,26,34]),(9,[1,36,43])]),(3,[(7,[1,48,51]),(6,[1,53,57]),(6,[1,59,63])]),(21,[(8,[1,3,7,8,9,160,163]),(5,[1,3,7,8,9,165,168])]),(26,[(15,[1,3,7,8,9,10,183,191])]),(45,[(15,[3,7,13,14,15,284,292])])],dr:=[(12,[(0,[(14,[1,3,5,6,87,98]),(12,[1,3,5,6,100,105,110])])]),(14,[(0,[(11,[1,3,5,6,116,117,118,123])]),(2048,[(12,[1,3,5,116,117,118,129,130,131,136])]),(16779264,[(4,[1,3,5,116,129,130,131,141]),(1,[1,3,5,116,129,130,131,142])])]),(35,[(0,[(14,[1,3,7,11,12,222,233]),(9,[1,3,7,11,235,236,237,242])])])] } func34 (by kernel_rfl) λ_=>by kernel_rfl
end Go.Lf
end
section

end
section
namespace Sm
def idx {α:Type} (l:List α) (i:Int):Option α:=if 0≤i then l[i.toNat]? else none
def AU {α:Type} (l:List α) (i:Int) (v:α):List α:=l.set i.toNat v
def CZ (a b:Int):Option Int:=if -9223372036854775808≤a + b∧a + b < 9223372036854775808 then some (a + b) else none
structure Shp where
 refs:Int
 nums:Int
 deriving DecidableEq,Inhabited
structure Rg where
 kind:Int
 AO:Int
 top:Int
 Av:Int
 AR:Int
 deriving DecidableEq,Inhabited
structure Op where
 kind:Int
 a:Int
 b:Int
 c:Int
 f:Int
 v:Int
 sh:Shp
 deriving DecidableEq,Inhabited
structure Thr where
 AB:List Int
 next:Int
 Aq:Int
 pc:Int
 h:Int
 g:Int
 k:Int
 u:Int
 v:Int
 sh:Shp
 src:Int
 dst:Int
 size:Int
 i:Int
 word:Int
 ret:Int
 deriving DecidableEq,Inhabited
structure Col where
 pc:Int
 Ae:Bool
 want:Int
 AF:List Int
 r:Int
 p:Int
 i:Int
 sh:Shp
 v:Int
 f:Int
 src:Int
 dst:Int
 size:Int
 word:Int
 deriving DecidableEq,Inhabited
structure Ev where
 thread:Int
 next:Int
 ans:Int
 code:Int
 deriving DecidableEq,Inhabited
structure Cfg where
 AA:Int
 A7:Int
 AK:Int
 deriving DecidableEq,Inhabited
structure AX where
 at_:Int
 moved:Int
 sh:Shp
 refs:List Int
 nums:List Int
 deriving DecidableEq,Inhabited
structure Th where
 AB:List Int
 next:Int
 busy:Bool
 Aq:Int
 deriving DecidableEq,Inhabited
structure BE where
 A6:List Int
 A0:List Rg
 AN:List Bool
 AY:Int
 stop:Bool
 full:Bool
 Ae:Bool
 want:Int
 A7:List Th
 old:List Int
 AM:List Int
 Aw:Int
 BX:Int
 deriving DecidableEq,Inhabited
structure Sim where
 c:Cfg
 AV:List (List Op)
 A6:List Int
 A0:List Rg
 AN:List Bool
 AY:Int
 stop:Bool
 full:Bool
 old:List Int
 AM:List Int
 Aw:Int
 BX:Int
 th:List Thr
 col:Col
 ev:List Ev
 used:Bool
 deriving DecidableEq,Inhabited
def BI (n:Nat):Bool:=n % 16 == 0 && decide (2≤n / 16) && decide (n / 16≤12)
def AQ (a:Int):Int:=if a < 0 then -1 else a / 16
def AE (r:Int):Int:=if r < 0∨12≤r then 0 else r * 16
def BB (s:Shp):Bool:=decide (0≤s.refs) && decide (s.refs≤4) && decide (0≤s.nums) && decide (s.nums≤4)
def Aj (s:Shp):Int:=if BB s then 16 * s.refs + s.nums else -1
def Sx:Shp:=⟨0,0⟩
def AG (w:Int):Shp × Bool:=if 0≤w∧w / 16≤4∧w % 16≤4 then (⟨w / 16,w % 16⟩,true) else (Sx,false)
def AD (s:Shp):Int:=if BB s then 2 + s.refs + s.nums else 0
def fits (n:Nat) (a size:Int):Bool:=BI n && decide (0 < size) && decide (size≤16) && decide (16≤a) && decide (a < n) && AQ a == AQ (a + size - 1)
def put (w:List Int) (a:Int) (l:List Int):List Int:=w.take a.toNat ++ l ++ w.drop (a.toNat + l.length)
def C8 (w:List Int) (a:Int) (s:Shp):List Int × Bool:=
 if fits w.length a (AD s) then (put w a ([a,Aj s] ++ List.replicate (s.refs.toNat + s.nums.toNat) 0),true) else ([],false)
def C7:AX:=⟨0,0,Sx,[],[]⟩
def seg (w:List Int) (a n:Int):List Int:=(w.drop a.toNat).take n.toNat
def B7 (w:List Int) (a:Int):AX × Bool:=
 if fits w.length a 2 then
  let s:=AG (w.getD (a.toNat + 1) 0)
  if s.2 && fits w.length a (AD s.1) then (⟨a,w.getD a.toNat 0,s.1,seg w (a + 2) s.1.refs,seg w (a + 2 + s.1.refs) s.1.nums⟩,true) else (C7,false)
 else (C7,false)
def Ai (w:List Int):Nat→Int→Int→Option (List AX)
 | 0,at_,top=>if at_ < top then none else some []
 | n + 1,at_,top=>if at_ < top then
   let t:=B7 w at_
   if t.2 && decide (at_ + AD t.1.sh≤top) then (match Ai w n (at_ + AD t.1.sh) top with | some l=>some (t.1 :: l) | none=>none) else none
  else some []
def BC (w:List Int) (r top:Int):Option (List AX):=
 if BI w.length && decide (1≤r) && decide (r < w.length / 16) && decide (AE r≤top) && decide (top≤AE r + 16) then Ai w 16 (AE r) top else none
def DP (r:Int):Rg:=⟨1,-1,AE r,AE r,0⟩
def DW:Rg:=⟨0,-1,0,0,0⟩
def AS (n:Int):List Rg:=if n < 2∨12 < n then [] else DW :: (List.range (n.toNat - 1)).map λ(i:Nat)=>DP ((i:Int) + 1)
def Hz (r:Int) (x:Rg):Bool:=
 let b:=AE r
 decide (1≤x.kind) && decide (x.kind≤4) && decide (b≤x.top) && decide (x.top≤b + 16) && decide (b≤x.Av) && decide (x.Av≤x.top) && decide (0≤x.AR) && decide (x.AR≤x.top - b) &&
 (!(x.kind == 1) || x.top == b) && (x.kind == 2) == decide (0≤x.AO) && decide (-1≤x.AO) && decide (x.AO≤3)
def L5:Nat→List Rg→Bool
 | _,[]=>true
 | i,x :: r=>Hz i x && (decide (x.AO < 0) || r.all λy=>!(y.AO == x.AO)) && L5 (i + 1) r
def BH (t:List Rg):Bool:=match t with
 | []=>false
 | e :: r=>decide (1≤r.length) && decide (r.length≤11) && e == DW && L5 1 r
def Br (p:Rg→Bool):Nat→List Rg→Int
 | _,[]=>-1
 | i,x :: r=>if p x then i else Br p (i + 1) r
def own (t:List Rg) (AO:Int):Int:=Br (λx=>x.kind == 2 && x.AO == AO) 1 t.tail
def Bw (t:List Rg) (AO:Int):Option (List Rg × Int):=
 if BH t && decide (0≤AO) && decide (AO≤3) && decide (own t AO < 0) then
  let i:=Br (λx=>x.kind == 1) 1 t.tail
  if i < 0 then none else some (AU t i ⟨2,AO,AE i,AE i,0⟩,i)
 else none
def CN (t:List Rg) (r:Int):Option (List Rg):=
 if BH t && decide (1≤r) then (match idx t r with
  | some x=>if x.kind == 2 then some (AU t r { x with kind:=3,AO:=-1 }) else none
  | none=>none) else none
def Bl (t:List Rg) (r:Int):Option (List Rg):=
 if BH t && decide (1≤r) then (match idx t r with
  | some x=>if x.kind == 1 then none else some (AU t r (DP r))
  | none=>none) else none
def BM (t:List Rg) (AO size:Int):Option (List Rg × Int):=
 if BH t && decide (0≤AO) && decide (AO≤3) && decide (1≤size) && decide (size≤16) then
  let r:=own t AO
  match (if 0≤r then idx t r else none) with
  | some x=>if x.top + size≤AE r + 16 then some (t,x.top) else
    (match Bw ((CN t r).getD []) AO with | some (u,n)=>some (u,AE n) | none=>none)
  | none=>(match Bw t AO with | some (u,n)=>some (u,AE n) | none=>none)
 else none
def Bi (held:List Int) (n:Int) (i:Nat) (x:Rg):Bool:=x.kind == 3 && x.top == x.Av && x.AR == n && decide (x.AR < x.top - AE i) && !(held.contains (i:Int))
def CH (held:List Int) (n:Int):Nat→List Rg→Int→Int × List Int
 | _,[],left=>(left,[])
 | i,x :: r,left=>if Bi held n i x && decide (n≤left) then (let q:=CH held n (i + 1) r (left - n);(q.1,(i:Int) :: q.2)) else CH held n (i + 1) r left
def Bg (t:List Rg) (held:List Int):Nat→Int→Int→List Int
 | 0,_,_=>[]
 | k + 1,n,left=>let q:=CH held n 1 t.tail left;q.2 ++ Bg t held k (n + 1) q.1
def Cf (held:List Int):Nat→List Rg→List Int
 | _,[]=>[]
 | i,x :: r=>if Bi held 0 i x then (i:Int) :: Cf held (i + 1) r else Cf held (i + 1) r
def Ac (t:List Rg) (AK:Int) (held:List Int):List Int × List Int:=
 if BH t then (Bg t held 16 1 AK,Cf held 1 t.tail) else ([],[])
def QE (o:Op):Bool:=decide (1≤o.kind) && decide (o.kind≤11) && (!(o.kind == 1) || BB o.sh)
def Dh (k:Int):Bool:=k == 2 || k == 3 || k == 4 || k == 5 || k == 7
def hnd (n:Nat) (a:Int):Bool:=decide (0≤a) && decide (a < n)
def DD (o:Op) (AB:List Int) (none_:Int):Int:=
 let n:=AB.length
 let a:=o.kind == 1 || (if o.kind == 8 then decide (0 < n) else hnd n o.a)
 let b:=o.kind == 1 || o.kind == 8 || o.kind == 2 || o.kind == 4 || o.kind == 5 || o.kind == 9 || o.kind == 10 || o.kind == 11 || hnd n o.b
 let c:=!(o.kind == 7) && (decide (1≤o.kind) && decide (o.kind≤11)) || hnd n o.c
 if !a || !b || !c then 2
 else if (Dh o.kind || o.kind == 10 || o.kind == 11) && (idx AB o.a).getD 0 == none_ then 3
 else if (o.kind == 1 || o.kind == 2 || o.kind == 9) && n == 8 then 5
 else 0
def GK (o:Op) (refs nums:Int):Bool:=if o.kind == 4 || o.kind == 5 then decide (0≤o.f) && decide (o.f < nums) else decide (0≤o.f) && decide (o.f < refs)
def DS (l:List Int) (a:Int):Nat→Option Nat
 | 0=>none
 | n + 1=>if l[n]? = some a then some n else DS l a n
def FE (AM:List Int) (kind a:Int):Option (List Int):=
 if kind == 10 then (if AM.length = 8 then none else some (AM ++ [a]))
 else match DS AM a AM.length with | some i=>some (AM.take i ++ AM.drop (i + 1)) | none=>none
def one (b:Bool):Int:=if b then 1 else 0
def thr0 (AB:List Int) (next Aq:Int):Thr:=⟨AB,next,Aq,0,0,0,0,0,0,Sx,0,0,0,0,0,0⟩
def CI (Ae:Bool) (want:Int):Col:=⟨0,Ae,want,[],0,0,0,Sx,0,0,0,0,0,0⟩
def Sim.read (S:Sim) (a:Int):Option (Int × Sim):=match idx S.A6 a with | some v=>some (v,{ S with used:=true }) | none=>none
def Sim.write (S:Sim) (a v:Int):Option Sim:=if 0≤a∧a < S.A6.length then some { S with used:=true,A6:=AU S.A6 a v } else none
def Sim.from_ (S:Sim) (a:Int):Option Bool:=if a = 0 then some false else match idx S.A0 (AQ a) with | some x=>some (x.kind == 4) | none=>none
def Sim.setT (S:Sim) (i:Int) (t:Thr):Sim:={ S with th:=AU S.th i t }
def Sim.sz (S:Sim):Bool:=decide (S.ev.length < 1000000) && decide (S.old.length < 1000000) && decide (S.col.AF.length < 1000000) && decide (S.AM.length < 1000000) && S.th.all λt=>decide (t.AB.length < 1000000)
def Sim.event (S:Sim) (i ans code:Int):Option Sim:=if !S.sz then none else match idx S.th i with
 | some t=>(match CZ t.next 1 with
  | some n=>some { S with ev:=S.ev ++ [⟨i,t.next,ans,code⟩],th:=AU S.th i (thr0 t.AB n 0) }
  | none=>none)
 | none=>none
def Sim.push (S:Sim) (i a:Int):Option Sim:=if !S.sz then none else match idx S.th i with
 | some t=>(S.setT i { t with AB:=t.AB ++ [a] }).event i 0 0
 | none=>none
def Sim.back (S:Sim) (i:Int):Option Sim:=match idx S.th i with
 | some t=>some { S.setT i (thr0 t.AB t.next 1) with full:=true,stop:=true }
 | none=>none
def Sim.opOf (S:Sim) (i:Int) (t:Thr):Option Op:=match idx S.AV i with | some p=>idx p t.next | none=>none
def Sim.begin_ (S:Sim) (i:Int):Option Sim:=do
 let t ← idx S.th i
 let o ← S.opOf i t
 if !QE o then S.event i 0 1 else
 let code:=DD o t.AB 0
 if code≠0 then S.event i 0 code else
 if o.kind = 8 then (S.setT i { t with AB:=t.AB.take (t.AB.length - 1) }).event i 0 0 else
 if o.kind = 9 then S.push i (← idx t.AB o.a) else
 if o.kind = 1 then some (S.setT i { t with pc:=30 }) else
 let t:={ t with pc:=1,h:=← idx t.AB o.a }
 let t ← (if o.kind = 3∨o.kind = 6∨o.kind = 7 then (do some { t with g:=← idx t.AB o.b }) else some t)
 let t ← (if o.kind = 7 then (do some { t with k:=← idx t.AB o.c }) else some t)
 some (S.setT i t)
def Dd (pc:Int):Int:=if pc = 11 then 12 else if pc = 15 then 16 else pc + 1
def Bh (t:Thr) (pc:Int):Int:=if pc = 1 then t.h else if pc = 2 then t.g else if pc = 3 then t.k else t.v
def BZ (t:Thr) (pc a:Int):Thr:=
 { (if pc = 1 then { t with h:=a } else if pc = 2 then { t with g:=a } else if pc = 3 then { t with k:=a } else { t with v:=a }) with pc:=Dd pc }
def Sim.resolve (S:Sim) (i:Int):Option Sim:=do
 let t ← idx S.th i
 if ¬ (0≤t.pc∧t.pc≤100) then none else
 let a:=Bh t t.pc
 if !(← S.from_ a) then some (S.setT i { t with pc:=Dd t.pc }) else
 let (f,S) ← S.read a
 if f = a∧S.AY = 2 then some (S.setT i { t with src:=a,ret:=t.pc,pc:=20 })
 else some (S.setT i (BZ t t.pc f))
def Sim.top (S:Sim) (a size:Int):Option Sim:=match idx S.A0 (AQ a) with
 | some x=>(match CZ a size with
  | some n=>some { S with A0:=AU S.A0 (AQ a) { x with top:=n } }
  | none=>none)
 | none=>none
def Sim.copying (S:Sim) (i:Int):Option Sim:=do
 let t ← idx S.th i
 if t.pc = 20 then
  let (w,S) ← S.read (← CZ t.src 1)
  let size:=AD (AG w).1
  match BM S.A0 i size with
  | none=>S.back i
  | some (A0,dst)=>some ({ S with A0:=A0 }.setT i { t with size:=size,dst:=dst,i:=1,pc:=21 })
 else if t.pc = 21 then
  let (w,S) ← S.read (← CZ t.src t.i)
  some (S.setT i { t with word:=w,pc:=22 })
 else if t.pc = 22 then
  let S ← S.write (← CZ t.dst t.i) t.word
  let n ← CZ t.i 1
  some (S.setT i { t with i:=n,pc:=if n = t.size then 23 else 21 })
 else if t.pc = 23 then
  let S ← S.write t.dst t.dst
  some (S.setT i { t with pc:=24 })
 else if t.pc = 24 then
  if ¬ (0≤t.ret∧t.ret≤100) then none else
  let (w,S) ← S.read t.src
  if w = t.src then
   let S ← S.write t.src t.dst
   let S ← S.top t.dst t.size
   some (S.setT i (BZ t t.ret t.dst))
  else some (S.setT i (BZ t t.ret w))
 else some (S.setT i t)
def Sim.making (S:Sim) (i:Int):Option Sim:=do
 let t ← idx S.th i
 let o ← S.opOf i t
 if t.pc = 30 then
  let size:=AD o.sh
  match BM S.A0 i size with
  | none=>if t.Aq = 2 then S.event i 0 6 else S.back i
  | some (A0,dst)=>some ({ S with A0:=A0 }.setT i { t with size:=size,dst:=dst,i:=2,pc:=31 })
 else if t.pc = 31 then
  let S ← S.write t.dst t.dst
  some (S.setT i { t with pc:=32 })
 else
  let (S,t) ← (if t.pc = 32 then (do some (← S.write (← CZ t.dst 1) (Aj o.sh),t))
   else if t.pc = 33 then (do some (← S.write (← CZ t.dst t.i) 0,{ t with i:=← CZ t.i 1 })) else some (S,t))
  let t:={ t with pc:=33 }
  let S:=S.setT i t
  if t.i = t.size then (do (← S.top t.dst t.size).push i t.dst) else some S
def Sim.oldV (S:Sim) (v:Int):Option Sim:=if !S.sz then none else some (if S.AY = 1∧v≠0 then { S with old:=S.old ++ [v] } else S)
def Sim.load (S:Sim) (i v:Int):Option Sim:=do
 let t ← idx S.th i
 if t.pc = 12∧v = t.u then S.push i t.v else
 if !(← S.from_ v) then S.push i v else
 some (S.setT i { t with u:=v,v:=v,pc:=11 })
def Sim.swap (S:Sim) (i v:Int):Option Sim:=do
 let t ← idx S.th i
 if t.pc = 16∧v = t.u then S.event i 0 0 else
 let t:={ t with u:=v }
 if ← S.from_ v then some (S.setT i { t with v:=v,pc:=15 }) else
 if v≠t.g then S.event i 0 0 else
 some ((← S.oldV v).setT i { t with pc:=14 })
def Sim.shape (S:Sim) (i:Int):Option Sim:=do
 let t ← idx S.th i
 if !S.sz then none else
 let o ← S.opOf i t
 if o.kind = 6 then S.event i (one (t.h == t.g)) 0 else
 if o.kind = 10∨o.kind = 11 then (match FE S.AM o.kind t.h with
  | none=>S.event i 0 7
  | some AM=>{ S with AM:=AM }.event i 0 0) else
 let (w,S) ← S.read (← CZ t.h 1)
 let sh:=(AG w).1
 if !GK o sh.refs sh.nums then S.event i 0 4 else
 let pc:=if o.kind = 2 then 5 else if o.kind = 3 then (if S.AY = 1 then 6 else 7) else if o.kind = 4 then 8 else if o.kind = 5 then 9 else if o.kind = 7 then 10 else t.pc
 some (S.setT i { t with sh:=sh,pc:=pc })
def Sim.field (S:Sim) (i:Int):Option Sim:=do
 let t ← idx S.th i
 let o ← S.opOf i t
 let h ← CZ t.h 2
 let ref ← CZ h o.f
 let num ← CZ (← CZ h t.sh.refs) o.f
 if t.pc = 5∨t.pc = 12 then (do let (v,S) ← S.read ref;S.load i v)
 else if t.pc = 6 then (do let (v,S) ← S.read ref;some ((← S.oldV v).setT i { t with pc:=7 }))
 else if t.pc = 7 then (do let S ← S.write ref t.g;S.event i 0 0)
 else if t.pc = 8 then (do let S ← S.write num o.v;S.event i 0 0)
 else if t.pc = 9 then (do let (v,S) ← S.read num;S.event i v 0)
 else if t.pc = 10 then (do let (v,S) ← S.read ref;S.swap i v)
 else if t.pc = 14 then (do
  let (v,S) ← S.read ref
  if v = t.u then (do let S ← S.write ref t.k;S.event i 1 0) else some (S.setT i { t with pc:=10 }))
 else if t.pc = 16 then (if t.v = t.g then some (S.setT i { t with pc:=14 }) else (do let (v,S) ← S.read ref;S.swap i v))
 else some S
def Sim.tstep (S:Sim) (i:Int):Option Sim:=do
 let t ← idx S.th i
 if t.pc≤3∨t.pc = 11∨t.pc = 15 then S.resolve i
 else if t.pc = 4 then S.shape i
 else if 30≤t.pc then S.making i
 else if 20≤t.pc then S.copying i
 else S.field i
def Sim.tloop:Nat→Sim→Int→Option Sim
 | 0,_,_=>none
 | n + 1,S,i=>do
  let t ← idx S.th i
  if S.used∨t.pc = 0 then some S else (do Sim.tloop n (← S.tstep i) i)
def Sim.thread (n:Nat) (S:Sim) (i:Int):Option Sim:=do
 let t ← idx S.th i
 if t.pc = 0 then
  (if S.stop then some S else do
   let p ← idx S.AV i
   if t.next < p.length then S.begin_ i else some S)
 else Sim.tloop n { S with used:=false } i
def Sim.setC (S:Sim) (c:Col):Sim:={ S with col:=c }
def Sim.mark (S:Sim):Option Sim:=
 if !S.sz then none else
 let x:=S.col
 if x.AF.length = 0 then
  match S.old with
  | []=>some { S with stop:=true,col:={ x with want:=2 } }
  | a :: l=>some { S with old:=l,col:={ x with AF:=[a] } }
 else do
  let a ← x.AF.getLast?
  let x:={ x with AF:=x.AF.dropLast }
  let row ← idx S.A0 (AQ a)
  if ← (if a < row.Av then (do some (!(← idx S.AN a))) else some false) then
   let S:={ S with AN:=AU S.AN a true }
   let (w,S) ← S.read (← CZ a 1)
   let sh:=(AG w).1
   let AR ← CZ row.AR (AD sh)
   some { S with A0:=AU S.A0 (AQ a) { row with AR:=AR },col:={ x with p:=a,i:=0,sh:=sh,pc:=if 0 < sh.refs then 2 else x.pc } }
  else some (S.setC x)
def Sim.look (S:Sim):Option Sim:=do
 if !S.sz then none else
 let x:=S.col
 let (v,S) ← S.read (← CZ (← CZ x.p 2) x.i)
 let i ← CZ x.i 1
 some (S.setC { x with AF:=if v≠0 then x.AF ++ [v] else x.AF,i:=i,pc:=if i = x.sh.refs then 1 else x.pc })
def Ir (AN:List Bool) (row:Rg):Nat→Int→Option Int
 | 0,_=>none
 | n + 1,p=>if row.kind = 4∧p < row.top then (do if ← idx AN p then some p else Ir AN row n (p + 1)) else some p
def Sim.walkOut (S:Sim):Nat→Int→Int→Option (Int × Int)
 | 0,_,_=>none
 | n + 1,r,p=>if r < S.A0.length then (do
   let row ← idx S.A0 r
   let p ← Ir S.AN row 20 p
   if row.kind = 4∧p < row.top then some (r,p) else S.walkOut n (r + 1) ((r + 1) * 16))
  else some (r,p)
def Sim.walk (S:Sim):Option Sim:=do
 let x:=S.col
 let (r,p) ← S.walkOut (S.A0.length + 2) x.r x.p
 let x:={ x with r:=r,p:=p }
 if r = S.A0.length then some { S with stop:=true,col:={ x with want:=3 } } else
 let q ← CZ p 1
 let x:={ x with p:=q }
 let (w,S) ← S.read p
 some (S.setC (if w = p then { x with src:=p,pc:=20 } else x))
def Sim.carry (S:Sim):Option Sim:=do
 let x:=S.col
 if x.pc = 20 then
  let (w,S) ← S.read (← CZ x.src 1)
  let size:=AD (AG w).1
  match BM S.A0 S.th.length size with
  | none=>some { S with full:=true,stop:=true }
  | some (A0,dst)=>some { S with A0:=A0,col:={ x with size:=size,dst:=dst,i:=1,pc:=21 } }
 else if x.pc = 21 then
  let (w,S) ← S.read (← CZ x.src x.i)
  some (S.setC { x with word:=w,pc:=22 })
 else if x.pc = 22 then
  let S ← S.write (← CZ x.dst x.i) x.word
  let n ← CZ x.i 1
  some (S.setC { x with i:=n,pc:=if n = x.size then 23 else 21 })
 else if x.pc = 23 then
  let S ← S.write x.dst x.dst
  some (S.setC { x with pc:=24 })
 else if x.pc = 24 then
  let (w,S) ← S.read x.src
  let S ← (if w = x.src then (do (← S.write x.src x.dst).top x.dst x.size) else some S)
  some (S.setC { x with pc:=5 })
 else some S
def Fl (x:Col):Option Col:=do
 let i ← CZ x.i 1
 some { x with i:=i,pc:=if i = x.sh.refs then 6 else 7 }
def Sim.renewTo (S:Sim):Nat→Int→Int→Option (Int × Int)
 | 0,_,_=>none
 | n + 1,r,p=>if r < S.A0.length then (do
   let row ← idx S.A0 r
   if ← (if row.kind = 4 then some true else (do some (decide ((← CZ (AE r) row.AR)≤p)))) then S.renewTo n (r + 1) ((r + 1) * 16) else some (r,p))
  else some (r,p)
def Sim.renew (S:Sim):Option Sim:=do
 let x:=S.col
 if x.pc = 6 then
  let (r,p) ← S.renewTo (S.A0.length + 2) x.r x.p
  let x:={ x with r:=r,p:=p }
  if r = S.A0.length then some { S with stop:=true,col:={ x with want:=0 } } else
  let (w,S) ← S.read (← CZ p 1)
  let sh:=(AG w).1
  let q ← CZ p (AD sh)
  let x:={ x with f:=p,sh:=sh,p:=q,i:=0 }
  let row ← idx S.A0 r
  let go ← (if 0 < sh.refs then (if row.Av≤p then some true else idx S.AN p) else some false)
  some (S.setC (if go then { x with pc:=7 } else x))
 else if x.pc = 7 then
  let (v,S) ← S.read (← CZ (← CZ x.f 2) x.i)
  let x:={ x with v:=v }
  if ← S.from_ v then some (S.setC { x with pc:=8 }) else some (S.setC (← Fl x))
 else if x.pc = 8 then
  let (w,S) ← S.read x.v
  let x:={ x with word:=w,pc:=9 }
  if w = x.v then some (S.setC (← Fl x)) else some (S.setC x)
 else if x.pc = 9 then
  let a ← CZ (← CZ x.f 2) x.i
  let (w,S) ← S.read a
  let S ← (if w = x.v then S.write a x.word else some S)
  some (S.setC (← Fl x))
 else some S
def Sim.work (S:Sim):Option Sim:=
 if S.AY = 1∧S.col.pc = 1 then S.mark
 else if S.AY = 1 then S.look
 else if S.AY = 2∧S.col.pc = 5 then S.walk
 else if S.AY = 2 then S.carry
 else S.renew
def Sim.cloop:Nat→Sim→Option Sim
 | 0,_=>none
 | n + 1,S=>if !S.used && !S.stop then (do Sim.cloop n (← S.work)) else some S
def BT (w:List Int):Nat→List Rg→Option (List AX)
 | _,[]=>some []
 | r,x :: l=>match BC w r x.top with
  | none=>none
  | some a=>match BT w (r + 1) l with | none=>none | some b=>some (a ++ b)
def B9 (s:BE):Option (List AX):=BT s.A6 1 s.A0.tail
def BU (l:List AX) (a:Int):Option AX:=l.find? λt=>t.at_ == a
def now (l:List AX) (a:Int):Option Int:=if a = 0 then some 0 else (BU l a).map AX.moved
def Cm (had:List Int) (a:Int):List Int:=if a = 0∨a∈had then had else had ++ [a]
def Ax (l:List AX):List Int→List Int→Option (List Int)
 | [],acc=>some acc
 | x :: r,acc=>do Ax l r (Cm acc (← now l x))
def DQ (l:List AX):List Th→List Int→Option (List Int)
 | [],acc=>some acc
 | t :: r,acc=>do DQ l r (← Ax l t.AB acc)
def Ba (l:List AX):Nat→Nat→List Int→Option (List Int)
 | 0,_,_=>none
 | n + 1,i,out=>match out[i]? with
  | none=>some out
  | some a=>do
   let t ← BU l a
   Ba l n (i + 1) (← Ax l t.refs out)
def DC (s:BE) (l:List AX):Option (List Int):=do
 let out ← DQ l s.A7 []
 Ba l (l.length + 2) 0 (s.AM.foldl Cm out)
def DT (l:List Int) (x:Int):Nat→Nat
 | 0=>0
 | k + 1=>if x < l.getD k 0 then DT l x k else k + 1
def Fg (l:List Int) (x:Int):List Int:=let p:=DT l x l.length;l.take p ++ x :: l.drop p
def B8 (l:List Int):List Int:=l.foldl Fg []
def C6 (AM:List Int) (r:Int):Bool:=AM.any λp=>AQ p == r
def wr (w:List Int) (a v:Int):Option (List Int):=if 0≤a∧a < w.length then some (AU w a v) else none
def wrs:List Int→Int→List Int→Option (List Int)
 | w,_,[]=>some w
 | w,a,v :: l=>do wrs (← wr w a v) (a + 1) l
def stay (s:BE):List AX→List Int→List Rg→Option (List Int × List Rg)
 | [],w,t=>some (w,t)
 | x :: l,w,t=>
  let r:=AQ x.at_
  if C6 s.AM r then (do
   let w ← wr w x.at_ x.at_
   let w ← wr w (x.at_ + 1) (Aj x.sh)
   let w ← wrs w (x.at_ + 2 + x.refs.length) x.nums
   let row ← idx s.A0 r
   let _ ← idx t r
   stay s l w (AU t r ⟨3,-1,row.top,row.top,0⟩))
  else stay s l w t
def GY (AM:List Int) (t:List Rg) (size:Int):Nat→Int→Option Int
 | 0,_=>none
 | n + 1,r=>if C6 AM r then GY AM t size n (r + 1) else (do
   let x ← idx t r
   if AE r + 16 < (← CZ x.top size) then GY AM t size n (r + 1) else some r)
def slide (AM:List Int) (l:List AX):List Int→List Rg→Int→List Int→Option (List Rg × List Int)
 | [],t,_,to=>some (t,to)
 | a :: rest,t,r,to=>do
  let x ← BU l a
  let size:=AD x.sh
  if C6 AM (AQ a) then slide AM l rest t r (to ++ [a]) else
  let r ← GY AM t size (t.length + 2) r
  let row ← idx t r
  let top ← CZ row.top size
  slide AM l rest (AU t r { row with kind:=3,top:=top,Av:=top }) r (to ++ [row.top])
def Bo (l:List Int) (n:Int):Int:=if n∈l then (l.idxOf n:Nat) else -1
def Ge (l:List AX) (AR to:List Int):List Int→Int→List Int→Option (List Int)
 | w,_,[]=>some w
 | w,a,v :: r=>do
  let k:=Bo AR (← now l v)
  let w ← (if 0≤k then (do wr w a (← idx to k)) else some w)
  Ge l AR to w (a + 1) r
def Fi (l:List AX) (AR to:List Int):List Int→List Int→List Int→Option (List Int)
 | a :: la,d :: ld,w=>do
  let t ← BU l a
  let w ← wr w d d
  let w ← wr w (d + 1) (Aj t.sh)
  let w ← Ge l AR to w (d + 2) t.refs
  let w ← wrs w (d + 2 + t.refs.length) t.nums
  Fi l AR to la ld w
 | _,_,w=>some w
def Cy (l:List AX) (AR to:List Int):List Int→Option (List Int)
 | []=>some []
 | a :: r=>do
  let k:=Bo AR (← now l a)
  let b ← (if k < 0 then some 0 else idx to k)
  some (b :: (← Cy l AR to r))
def DU (l:List AX) (AR to:List Int):List Th→Option (List Th)
 | []=>some []
 | t :: r=>do
  let AB ← Cy l AR to t.AB
  some (⟨AB,t.next,false,if t.Aq = 1 then 2 else t.Aq⟩ :: (← DU l AR to r))
def H3 (s:BE):Option BE:=do
 let l:=(B9 s).getD []
 let AR:=B8 (← DC s l)
 let (A6,A0) ← stay s l (List.replicate s.A6.length 0) (AS s.A0.length)
 let (A0,to) ← slide s.AM l AR A0 1 []
 let A6 ← Fi l AR to AR to A6
 let ths ← DU l AR to s.A7
 let BX ← CZ s.BX 1
 some ⟨A6,A0,List.replicate A6.length false,0,false,false,s.Ae,0,ths,[],s.AM,s.Aw,BX⟩
def Sim.view (S:Sim):BE:=
 ⟨S.A6,S.A0,S.AN,S.AY,S.stop,S.full,S.col.Ae,S.col.want,S.th.map λt=>⟨t.AB,t.next,t.pc != 0,t.Aq⟩,S.old,S.AM,S.Aw,S.BX⟩
def Sim.calm (S:Sim):Bool:=S.th.all λt=>t.pc == 0
def rows (f:Int→Rg→Rg) (t:List Rg):List Rg:=t.mapIdx λi x=>if i = 0 then x else f i x
def Sim.idle (S:Sim):Option Sim:=do
 let n ← CZ S.Aw 1
 some { S with AN:=List.replicate S.AN.length false,AY:=0,col:=CI S.col.Ae 0,Aw:=n,A0:=rows (λ_ x=>{ x with AR:=0 }) S.A0 }
def Sim.snapshot (S:Sim):Sim:=
 { S with AN:=List.replicate S.AN.length false,old:=[],AY:=1,col:={ CI S.col.Ae S.col.want with pc:=1,AF:=(S.th.flatMap λt=>t.AB.filter (·≠0)) ++ S.AM },A0:=rows (λ_ x=>{ x with Av:=x.top,AR:=0 }) S.A0 }
def Sim.drain:Nat→Sim→Option Sim
 | 0,_=>none
 | n + 1,S=>if !S.sz then none else if 0 < S.col.AF.length∨0 < S.old.length∨S.col.pc = 2 then (do
   Sim.drain n (← if S.col.pc = 2 then S.look else S.mark))
  else some S
def Lk:List Int→List Rg→Option (List Rg)
 | [],t=>some t
 | r :: l,t=>do
  let x ← idx t r
  Lk l (AU t r { x with kind:=4 })
def Sim.choose (n:Nat) (S:Sim):Option Sim:=do
 let S ← Sim.drain n S
 let q:=Ac S.A0 S.c.AK (S.AM.map AQ)
 let t:=q.2.foldl (λt r=>(Bl t r).getD []) S.A0
 let t ← Lk q.1 t
 let S:={ S with stop:=false,A0:=t }
 if q.1.length = 0 then S.idle else
 some { S with AY:=2,col:={ CI S.col.Ae S.col.want with pc:=5,r:=1,p:=16 } }
def Sim.rootsF (S:Sim):List Int→Option (List Int)
 | []=>some []
 | a :: r=>do
  let b ← (if ← S.from_ a then idx S.A6 a else some a)
  some (b :: (← S.rootsF r))
def Sim.thsF (S:Sim):List Thr→Option (List Thr)
 | []=>some []
 | t :: r=>do
  let AB ← S.rootsF t.AB
  some ({ t with AB:=AB } :: (← S.thsF r))
def CM:Nat→Nat→List Rg→List Rg
 | 0,_,t=>t
 | n + 1,i,t=>match t[i]? with
  | none=>t
  | some x=>CM n (i + 1) (if x.kind == 4 then (Bl t i).getD [] else t)
def Sim.finish (S:Sim):Option Sim:=do
 let th ← S.thsF S.th
 Sim.idle { S with th:=th,A0:=CM S.A0.length 1 S.A0 }
def Sim.update (S:Sim):Option Sim:=do
 let _ ← (if S.A0.all (λx=>decide (-1000≤x.top) && decide (x.top≤1000)) then some () else none)
 some { S with AY:=3,A0:=rows (λi x=>{ x with AR:=x.top - AE i }) S.A0,col:={ CI S.col.Ae S.col.want with pc:=6,r:=1,p:=16 } }
def Sim.pause (n:Nat) (S:Sim):Option Sim:=
 if !S.sz then none else
 if S.full then do
  let s ← H3 S.view
  some { S with A6:=s.A6,A0:=s.A0,AN:=s.AN,AY:=s.AY,stop:=s.stop,full:=s.full,old:=s.old,AM:=s.AM,Aw:=s.Aw,BX:=s.BX,col:=CI s.Ae 0,th:=s.A7.map λt=>thr0 t.AB t.next t.Aq }
 else
  let S:={ S with stop:=false }
  if S.col.want = 1 then some S.snapshot
  else if S.col.want = 2 then S.choose n
  else if S.col.want = 3 then S.update
  else S.finish
def Sim.collector (n:Nat) (S:Sim):Option Sim:=
 if S.stop then (if S.calm then S.pause n else some S)
 else if S.AY = 0 then (if S.col.Ae then some { S with stop:=true,col:={ S.col with Ae:=false,want:=1 } } else some S)
 else Sim.cloop n { S with used:=false }
def Sim.fuel (S:Sim):Nat:=100 * (S.A6.length + S.old.length + S.col.AF.length) + 1000
def Sim.pick (S:Sim) (p:Int):Option Sim:=
 if 0≤p∧p < S.th.length then S.thread S.fuel p
 else if p = S.th.length then S.collector S.fuel
 else if p = S.th.length + 1 then some { S with col:={ S.col with Ae:=true } }
 else some S
def Sim.picks:List Int→Sim→Option Sim
 | [],S=>some S
 | p :: l,S=>do Sim.picks l (← S.pick p)
def BV (c:Cfg):Bool:=decide (3≤c.AA) && decide (c.AA≤12) && decide (1≤c.A7) && decide (c.A7≤3) && decide (0≤c.AK) && decide (c.AK≤100)
def Bn:Shp:=⟨4,2⟩
def start (c:Cfg) (AV:List (List Op)):Sim:=
 ⟨c,AV,(C8 (List.replicate (c.AA.toNat * 16) 0) 16 Bn).1,AU (AS c.AA) 1 ⟨3,-1,24,24,0⟩,List.replicate (c.AA.toNat * 16) false,
  0,false,false,[],[],0,0,List.replicate c.A7.toNat (thr0 [16] 0 0),CI false 0,[],false⟩
def CR (c:Cfg) (AV:List (List Op)) (picks:List Int):Bool:=
 BV c && decide ((AV.length:Int) = c.A7) && decide (picks.length≤4000) && AV.all λp=>decide (p.length≤40)
end Sm
end
