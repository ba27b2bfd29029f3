/-
  Qk
-/
import Derived.Test.YtocgdeefgohdhaaGreatRows
import Derived.Test.YtocgdeefgohdhaaGreatPqQj
import Derived.Test.YtocgdeefgohdhaaGreatPqI
set_option linter.all false
set_option maxRecDepth 100000
set_option maxHeartbeats 4000000
namespace Go.Proofs.YtocgdeefgohdhaaGreat
open Go.Proofs.Tryz
attribute [local irreducible] RD RS AD RL RA RT BH Al
theorem EZ (v:MV):EO v v=true:=by simp[EO,Gt]
theorem Tj {ts:List Au}{X:Au→MV}{s:A6}:ts.map (fun t=>An (X t) s)=(ts.map (fun t=>(⟨X t,s⟩:Mg))).map Mg.c:=by rw[List.map_map];rfl
theorem PE {ts:List Au}(X:Au→MV)(s:A6){w:World}{T:TypeId}{a:Option Addr}{c:Nat}(h:Ag w T a c (ts.map (fun t=>An (X t) s))):Ag w T a c ((ts.map (fun t=>(⟨X t,s⟩:Mg))).map Mg.c):=by rw[←Tj];exact h
theorem PF (ts:List Au)(X:Au→MV)(s:A6):(ts.map (fun t=>An (X t) s)).length=((ts.map (fun t=>(⟨X t,s⟩:Mg))).map Mg.c).length:=by simp only[List.length_map]
theorem SW {ts:List Au}{X:Au→MV}{s:A6}:(ts.map (fun t=>(⟨X t,s⟩:Mg))).map Mg.v=ts.map X:=by rw[List.map_map];rfl
theorem J8 {w:World}:G9 w []:=fun _ h=>absurd h Zs
theorem PG (self req nd now:Int)(id knd qty price:Int)(key item:ByteArray)(va:MV)(sa:A6)(al:Option Addr)(ts:List Au)(lc:Nat)(vc:MV)(sc:A6)(w0 w:World)(hK0:As w0 w)(hA0:AE w0 sa va)(hoa:AV va sa)(hl0:At w0 al ts)(hll:ts.length≤1048576)(hlc:ts.length≤lc)(hC0:AE w0 sc vc)(hoc:AV vc sc):
  Calls prog 30 #[.int .i64 self,.int .i64 req,.agg #[.int .i64 id,.int .i64 knd,.string key,.string item,.int .i64 qty,.int .u64 price,.slice sa.ea va.ent.length sa.ec,.slice sa.ma va.mrk.length sa.mc,.slice sa.ca va.cl.length sa.cc],.agg #[.slice sc.ea vc.ent.length sc.ec,.slice sc.ma vc.mrk.length sc.mc,.slice sc.ca vc.cl.length sc.cc],.slice al ts.length lc,.int .i64 nd,.int .i64 now] w (AU (fun r w'=>((CA self req nd now ts (Bk vc.mrk vc.cl vc.ent))≠0∧r= .tuple #[.pointer none,.slice none 0 0,.int .i64 (CA self req nd now ts (Bk vc.mrk vc.cl vc.ent))]∧As w w')∨((CA self req nd now ts (Bk vc.mrk vc.cl vc.ent))=0∧∃x F a c L,r= .tuple #[jp x,.slice a ((L:List Mg).map Mg.c).length c,.int .i64 0]∧C3 w0 w' x F (⟨self,req,nd,now,true,id,key,va,vc,ts,List.replicate ts.length false,List.replicate ts.length false,(List.replicate ts.length (⟨nilV,nilS⟩:Mg)).map Mg.v,[],0,0,false,false,false,false⟩:RM)∧Ag w' 48 a c (L.map Mg.c)∧L.map Mg.v=ts.map (fun t=>Ap 1 self t.node req key t.owner vc)∧G9 w L∧(∀q,F q→w.heap.size≤q)∧(∀q,own a q→w.heap.size≤q)∧(∀q,F q→¬own a q)∧As w w'))):=by
 refine(SU self req nd now id knd qty price key item va sa al ts lc vc sc w0 w hK0 hA0 hoa hl0 hll hlc hC0 hoc).mono ?_
 rintro e_ w_ ⟨r_,h1_,(h2_|⟨h0_,x_,F_,a_,c_,hr_,hX_,ho_,h3_⟩)⟩
 ·exact⟨r_,h1_,.inl h2_⟩
 ·refine⟨r_,h1_,.inr ⟨h0_,x_,F_,a_,c_,ts.map (fun t=>(⟨Ap 1 self t.node req key t.owner vc,sc.only⟩:Mg)),by rw[hr_,PF ts (fun t=>Ap 1 self t.node req key t.owner vc) sc.only],hX_,PE (fun t=>Ap 1 self t.node req key t.owner vc) sc.only ho_,SW,fun m_ hm_=> ?_,h3_⟩⟩
  obtain⟨t_,_,rfl⟩:=List.mem_map.1 hm_
  exact⟨L7 (hC0.ext hK0),Db hoc.ok⟩
theorem PH (self req nd now:Int)(id knd qty price:Int)(key item:ByteArray)(va:MV)(sa:A6)(al:Option Addr)(ts:List Au)(lc:Nat)(w0 w:World)(hK0:As w0 w)(hA0:AE w0 sa va)(hoa:AV va sa)(hl0:At w0 al ts)(hll:ts.length≤1048576)(hlc:ts.length≤lc):
  Calls prog 32 #[.int .i64 self,.int .i64 req,.agg #[.int .i64 id,.int .i64 knd,.string key,.string item,.int .i64 qty,.int .u64 price,.slice sa.ea va.ent.length sa.ec,.slice sa.ma va.mrk.length sa.mc,.slice sa.ca va.cl.length sa.cc],.slice al ts.length lc,.int .i64 nd,.int .i64 now] w (AU (fun r w'=>((CA self req nd now ts (Bk va.mrk va.cl va.ent))≠0∧r= .tuple #[.pointer none,.slice none 0 0,.int .i64 (CA self req nd now ts (Bk va.mrk va.cl va.ent))]∧As w w')∨((CA self req nd now ts (Bk va.mrk va.cl va.ent))=0∧∃x F a c L,r= .tuple #[jp x,.slice a ((L:List Mg).map Mg.c).length c,.int .i64 0]∧C3 w0 w' x F (⟨self,req,nd,now,false,id,key,va,nilV,ts,List.replicate ts.length false,List.replicate ts.length false,(List.replicate ts.length (⟨nilV,nilS⟩:Mg)).map Mg.v,[],0,0,false,false,false,false⟩:RM)∧Ag w' 48 a c (L.map Mg.c)∧L.map Mg.v=ts.map (fun t=>Ap 3 self t.node req key (-1) nilV)∧G9 w L∧(∀q,F q→w.heap.size≤q)∧(∀q,own a q→w.heap.size≤q)∧(∀q,F q→¬own a q)∧As w w'))):=by
 refine(SV self req nd now id knd qty price key item va sa al ts lc w0 w hK0 hA0 hoa hl0 hll hlc).mono ?_
 rintro e_ w_ ⟨r_,h1_,(h2_|⟨h0_,x_,F_,a_,c_,hr_,hX_,ho_,h3_⟩)⟩
 ·exact⟨r_,h1_,.inl h2_⟩
 ·refine⟨r_,h1_,.inr ⟨h0_,x_,F_,a_,c_,ts.map (fun t=>(⟨Ap 3 self t.node req key (-1) nilV,nilS⟩:Mg)),by rw[hr_,PF ts (fun t=>Ap 3 self t.node req key (-1) nilV) nilS],hX_,PE (fun t=>Ap 3 self t.node req key (-1) nilV) nilS ho_,SW,fun m_ hm_=> ?_,h3_⟩⟩
  obtain⟨t_,_,rfl⟩:=List.mem_map.1 hm_
  exact⟨L7 (s:=nilS) nil_R.cart,Db nil_ok⟩
attribute [local irreducible] X
theorem NX (a b:MV)(s t:A6)(w:World)(hR:AE w s a)(hQ:AE w t b)(hv:Fl a):
  Calls prog 71 #[.agg #[.slice s.ma a.mrk.length s.mc,.slice s.ca a.cl.length s.cc],.agg #[.slice t.ma b.mrk.length t.mc,.slice t.ca b.cl.length t.cc]] w (AU (fun v w'=>v= .bool (Gt a b)∧As w w')):=by
 have hv0:=hv;obtain⟨hv1,hv2,hv3,hv4,hv5,hv6⟩:=hv;refine Af (n:=17) func71 rfl rfl rfl ?_;refine jG ?_;refine jR<|jB ?_;intro a7 a9 a5 a0 a3;have:w.heap.size≤a7:=a5;clear a5;have K0:=(a3:As w _);refine jR<|jB ?_;intro aa ab a4 a6 a2;have ac:=Aj a0.lt a4;have:=Nat.le_trans K0.size a4;clear a4;replace a0:=a0.ext a2;refine jG ?_;replace hR:=(hR.ext a3).ext a2;replace hQ:=(hQ.ext a3).ext a2;refine jR<|jC (G2 _ _ _ _ _ _ _ (hR).mrk (hQ).mrk Zo) ?_;rintro _ ad ⟨rfl,a1⟩;replace a0:=a0.ext a1;replace a6:=a6.ext a1;refine jG ?_;replace hR:=hR.ext a1;replace hQ:=hQ.ext a1;refine RL.gcall (vals:=[.slice s.ca a.cl.length s.cc,.slice t.ca b.cl.length t.cc]) (A8 rfl rfl rfl rfl) en92.h (fun hg=>(Bm (Bh hg) (Bm (Bh hg) Di))) (fun hg=>(MF _ _ _ _ _ _ _ (hR).cl (hQ).cl Zo)) ?_;intro ae a8;refine jV (AN rfl rfl rfl) ?_;refine jG ?_;refine jJ func71 ?_;replace K0:=((K0.ext a2).ext a1).ext a8;exact⟨_,rfl,rfl,K0⟩
theorem El (a b:MV)(s t:A6)(w:World)(hR:AE w s a)(hQ:AE w t b)(hv:Fl a):
  Calls prog 33 #[.agg #[.slice s.ea a.ent.length s.ec,.slice s.ma a.mrk.length s.mc,.slice s.ca a.cl.length s.cc],.agg #[.slice t.ea b.ent.length t.ec,.slice t.ma b.mrk.length t.mc,.slice t.ca b.cl.length t.cc]] w (AU (fun v w'=>v= .bool (EO a b)∧As w w')):=by
 have hv0:=hv;obtain⟨hv1,hv2,hv3,hv4,hv5,hv6⟩:=hv;refine Af (n:=17) func33 rfl rfl rfl ?_;refine jG ?_;refine jR<|jB ?_;intro a7 a9 a5 a0 a3;have:w.heap.size≤a7:=a5;clear a5;have K0:=(a3:As w _);refine jR<|jB ?_;intro aa ab a4 a6 a2;have ac:=Aj a0.lt a4;have:=Nat.le_trans K0.size a4;clear a4;replace a0:=a0.ext a2;refine jG ?_;replace hR:=(hR.ext a3).ext a2;replace hQ:=(hQ.ext a3).ext a2;refine jR<|jC (GZ _ _ _ _ _ _ _ (hR).ent (hQ).ent Zo) ?_;rintro _ ad ⟨rfl,a1⟩;replace a0:=a0.ext a1;replace a6:=a6.ext a1;refine jG ?_;replace hR:=hR.ext a1;replace hQ:=hQ.ext a1;refine RL.gcall (vals:=[.agg #[.slice s.ma a.mrk.length s.mc,.slice s.ca a.cl.length s.cc],.agg #[.slice t.ma b.mrk.length t.mc,.slice t.ca b.cl.length t.cc]]) (A8 rfl rfl rfl rfl) en71.h (fun hg=>(Bm (Bh hg) (Bm (Bh hg) Di))) (fun hg=>(NX a b s t _ hR hQ Za)) ?_;intro ae a8;refine jV (AN rfl rfl rfl) ?_;refine jG ?_;refine jJ func33 ?_;replace K0:=((K0.ext a2).ext a1).ext a8;exact⟨_,rfl,rfl,K0⟩
end Go.Proofs.YtocgdeefgohdhaaGreat
