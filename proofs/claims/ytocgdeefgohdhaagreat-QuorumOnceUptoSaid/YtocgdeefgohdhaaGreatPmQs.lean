/-
  Qs
-/
import Derived.Test.YtocgdeefgohdhaaGreatRows
import Derived.Test.YtocgdeefgohdhaaGreatPmQq
import Derived.Test.YtocgdeefgohdhaaGreatPmI
set_option linter.all false
set_option maxRecDepth 100000
set_option maxHeartbeats 4000000
namespace Go.Proofs.YtocgdeefgohdhaaGreat
attribute [local irreducible] RD RS St1 RL RA RT RT1 Run
def ansN (Q:PM):Int:=if Q.answered=true then 1 else 0
structure OInv (Q:PM)(now:Int):Prop where
 inv:MInv Q
 md:Q.made=true
 bg:Q.began=now
 da:Q.done=true→Q.answered=true
section
variable {Q :PM}{v:MV}{now nw:Int}
theorem ansN_b (Q:PM):0≤ansN Q∧ansN Q≤1:=by unfold ansN;split<;>omega
theorem ansN_t (h:Q.answered=true):ansN Q=1:=by rw[ansN,if_pos h]
theorem ansN_f (h:Q.answered=false):ansN Q=0:=by rw[ansN,if_neg (by rw[h];decide)]
theorem onEnd_ans (S:Int):(onEnd Q S).answered=(Q.answered||decide (S≠0)):=rfl
theorem end_0 {S : Int} (h : onS Q S = 0) : (onEnd Q S).answered = Q.answered := by
  rw [onEnd_ans]
  cases ha : Q.answered with
  | true => rfl
  | false =>
    rw [onS, if_neg (by rw [ha]; decide)] at h
    rw [Bool.false_or]; exact decide_eq_false (not_not_intro h)
theorem end_1 {S : Int} (h : onS Q S ≠ 0) : Q.answered = false ∧ (onEnd Q S).answered = true := by
  cases ha : Q.answered with
  | true => exact absurd (by rw [onS, if_pos ha]) h
  | false =>
    rw [onS, if_neg (by rw [ha]; decide)] at h
    exact ⟨rfl, by rw [onEnd_ans, ha, decide_eq_true h]; rfl⟩
theorem ansN_e {P:PM}(h:P.answered=Q.answered):ansN P=ansN Q:=by unfold ansN;rw[h]
theorem ans_on0 (h:onSt Q v=0):ansN (onN Q v)=ansN Q:=by
 by_cases ho:onOk Q v=true
 ·cases hp:Q.put with
  |true=>obtain⟨e1,-,e3,-⟩:=onN_put ho hp;rw[e3]at h;rw[e1];exact ansN_e (end_0 (Q:=pAdd Q v) h)
  |false=>obtain⟨e1,-,e3,-⟩:=onN_get ho hp;rw[e3]at h;rw[e1];exact ansN_e (end_0 (Q:=hearPM (pAdd Q v) v) h)
 ·rw[(onN_no ho).1]
theorem ans_on1 (h:onSt Q v≠0):ansN (onN Q v)=ansN Q+1:=by
 by_cases ho:onOk Q v=true
 ·cases hp:Q.put with
  |true=>obtain⟨e1,-,e3,-⟩:=onN_put ho hp;rw[e3]at h;obtain⟨a,b⟩:=end_1 (Q:=pAdd Q v) h;rw[e1,ansN_f (Q:=Q) a];exact ansN_t (Q:=onPut Q v) b
  |false=>obtain⟨e1,-,e3,-⟩:=onN_get ho hp;rw[e3]at h;obtain⟨a,b⟩:=end_1 (Q:=hearPM (pAdd Q v) v) h;rw[e1,ansN_f (Q:=Q) a];exact ansN_t (Q:=onGet Q v) b
 ·exact absurd (onN_no ho).2.2 h
theorem ans_tick0 (h:tickSt Q nw=0):ansN (tickN Q nw)=ansN Q:=by
 by_cases hk:tickOk Q nw=true
 ·cases ha:Q.answered with
  |true=>rw[(tick_a hk ha).1];exact ansN_e (show true=Q.answered from ha.symm)
  |false=>rw[(tick_n hk ha).2.2]at h;exact absurd h (by decide)
 ·rw[(tick_no hk).1]
theorem ans_tick1 (h:tickSt Q nw≠0):ansN (tickN Q nw)=ansN Q+1:=by
 by_cases hk:tickOk Q nw=true
 ·cases ha:Q.answered with
  |true=>exact absurd (tick_a hk ha).2.2 h
  |false=>rw[(tick_n hk ha).1,ansN_f ha,ansN_t (Q:=qD Q 504) rfl];rfl
 ·exact absurd (tick_no hk).2.2 h
theorem putS_lt' (h:putS Q=0):(keptN Q.got:Int)<Q.need:=Int.not_le.1 fun h2=>by rw[putS_200 h2]at h;omega
theorem hgS_ne (h:hgX Q v false=true∨Q.got.length=Q.targets.length):hgS Q v≠0:=by
 have hend:∀{need fine:Int} {a c:MV},Q.got.length=Q.targets.length→endS need fine a c Q.got.length Q.targets.length≠0:=by
  intro need fine a c hl
  by_cases h1:need≤fine∧leqX a.mrk a.cl c.mrk c.cl
  ·by_cases h2:c.mrk=[]∧c.cl=[]
   ·rw[endS_404 h1.1 h1.2 h2];decide
   ·rw[endS_200 h1.1 h1.2 h2];decide
  ·rw[endS_503 h1 hl];decide
 by_cases h1:canV v=0
 ·by_cases h2:joinN Q.cart v=0
  ·obtain⟨-,-,e3,e4⟩:=hg_yes h1 h2
   rw[e4]
   exact hend (h.resolve_left (by rw[e3];decide))
  ·rw[(hg_bad h1 h2).2.2.2];decide
 ·obtain⟨-,-,e3,e4⟩:=hg_no (Q:=Q) h1
  rw[e4]
  exact hend (h.resolve_left (by rw[e3];decide))
theorem putS_ne (h:Q.got.length=Q.targets.length):putS Q≠0:=fun e=>by
 have h1:=putS_lt' e
 have h2:¬Q.need≤(Q.targets.length:Int)-((Q.got.length:Int)-keptN Q.got):=by rw[←h];omega
 unfold putS at e
 rw[if_neg (by omega),if_neg h2]at e
 split at e<;>omega
theorem OInv.on (h : OInv Q now) : OInv (onN Q v) now := by
  refine ⟨h.inv.on, ?_, ?_, ?_⟩
  · by_cases ho : onOk Q v = true
    · cases hp : Q.put with
      | true => rw [(onN_put ho hp).1]; exact h.md
      | false => rw [(onN_get ho hp).1]; exact h.md
    · rw [(onN_no ho).1]; exact h.md
  · by_cases ho : onOk Q v = true
    · cases hp : Q.put with
      | true => rw [(onN_put ho hp).1]; exact h.bg
      | false => rw [(onN_get ho hp).1]; exact h.bg
    · rw [(onN_no ho).1]; exact h.bg
  · by_cases ho : onOk Q v = true
    · have hd : Q.done = false := by
        have h2 := ho
        unfold onOk at h2
        simp only [Bool.and_eq_true, Bool.not_eq_true'] at h2
        exact h2.1.1.1.2
      cases hp : Q.put with
      | true =>
        rw [(onN_put ho hp).1]
        intro hdn
        have h2 : (Q.done || decide ((Q.got ++ [v]).length = Q.targets.length)) = true := hdn
        rw [hd, Bool.false_or] at h2
        show (Q.answered || decide (putS (pAdd Q v) ≠ 0)) = true
        rw [decide_eq_true (putS_ne (Q := pAdd Q v) (of_decide_eq_true h2)), Bool.or_true]
      | false =>
        rw [(onN_get ho hp).1]
        intro hdn
        have h2 : (hgX (pAdd Q v) v Q.done || decide ((Q.got ++ [v]).length = Q.targets.length)) = true := hdn
        rw [hd, Bool.or_eq_true] at h2
        show (Q.answered || decide (hgS (pAdd Q v) v ≠ 0)) = true
        rw [decide_eq_true (hgS_ne (Q := pAdd Q v) (h2.imp (fun h => h) of_decide_eq_true)), Bool.or_true]
    · rw [(onN_no ho).1]; exact h.da
theorem OInv.tick (h:OInv Q now):OInv (tickN Q nw) now:=by
 by_cases hk:tickOk Q nw=true
 ·have e:tickN Q nw=qD Q (if Q.answered=true then Q.status else 504):=by rw[tickN,if_pos hk]
  exact⟨h.inv.tick,by rw[e];exact h.md,by rw[e];exact h.bg,fun _=>by rw[e]⟩
 ·rw[(tick_no hk).1];exact h
theorem once_end (h:OInv Q now):ansN (tickN Q (now+1000))=1∧(tickN Q (now+1000)).done=true:=by
 by_cases hk:tickOk Q (now+1000)=true
 ·have e:tickN Q (now+1000)=qD Q (if Q.answered=true then Q.status else 504):=by rw[tickN,if_pos hk]
  rw[e];exact⟨ansN_t rfl,rfl⟩
 ·rw[(tick_no hk).1]
  have hd:Q.done=true:=by
   cases hd:Q.done with
   |true=>rfl
   |false=>exact absurd (tickOk_iff.2 ⟨by rw[h.md,hd];rfl,by rw[h.bg];exact Int.le_refl _⟩) hk
  exact⟨ansN_t (h.da hd),hd⟩
end
attribute [local irreducible] X
theorem law_once (bp:Bool)(self req nd now:Int)(id knd qty price:Int)(key item:ByteArray)(va:MV)(sa:Six)(al:Option Addr)(ts:List TargetC)(lc:Nat)(vc:MV)(sc:Six)(ad:Option Addr)(ds:List QDoC)(cd:Nat)(w:World)(hA:CartR w sa va)(hoa:CartOk va sa)(hl:SlOf w al ts)(hll:ts.length≤1048576)(hlc:ts.length≤lc)(hC:CartR w sc vc)(hoc:CartOk vc sc)(hd:SlOf w ad ds)(hdl:ds.length≤1048576)(hq:∀o∈ds,QDoOk w o):
  Calls Tryz.prog 6 #[.agg #[.bool (bp),.int .i64 (self),.int .i64 (req),.int .i64 (id),.int .i64 (knd),.string (key),.string (item),.int .i64 (qty),.int .u64 (price),.slice (sa.ea) (va.ent.length) (sa.ec),.slice (sa.ma) (va.mrk.length) (sa.mc),.slice (sa.ca) (va.cl.length) (sa.cc),.slice (sc.ea) (vc.ent.length) (sc.ec),.slice (sc.ma) (vc.mrk.length) (sc.mc),.slice (sc.ca) (vc.cl.length) (sc.cc),.slice (al) (ts.length) (lc),.int .i64 (nd),.int .i64 (now)],.slice (ad) (ds.length) (cd)] w (Ret (fun r w'=>r= .bool true∧Ext w w')):=by
 obtain⟨ha1,ha2,ha3,-,-,-⟩:=hoa.ok;obtain⟨hc1,hc2,hc3,-,-,-⟩:=hoc.ok;refine calls_run (n:=78) Tryz.func6 rfl rfl rfl ?_;refine jG ?_;refine jR<|jB ?_;intro a3 bb aG a0 aR;have:w.heap.size≤a3:=aG;clear aG;have K0:=(aR:Ext w _);refine jG ?_;refine jR<|jC (lbeginA_ bp self req nd now id knd qty price key item va sa al ts lc vc sc _ (hA.ext K0) hoa (hl.ext K0) hll hlc (hC.ext K0) hoc) ?_;rintro _ be (⟨bg,rfl,-,ag⟩|⟨a6,bh,bi,bj,ao,bk,rfl,aH,aS,aT,aU,az,aV,bl,ag⟩)
 ·replace a0:=a0.ext ag
  refine jG8 ?_;refine jV (x_not (b:=true) rfl) ?_;refine jG ?_;refine jT<|jO (litT (x_ptrNil Tryz.underlying37 rfl rfl) rfl) ?_;refine jV (x_orF rfl rfl rfl) ?_;refine jG ?_;refine jT1 ?_;refine jG ?_;refine jJ Tryz.func6 ?_;replace K0:=K0.ext ag;exact⟨_,rfl,rfl,K0⟩
 ·have hz4:=aU
  unfold begA at hz4
  have hI0:OInv ao now∧ao.answered=false:=by
   rcases aT with⟨-,rfl,-⟩|⟨-,rfl,-⟩
   ·exact⟨⟨⟨⟨List.nodup_nil,fun x hx=>absurd hx (by simp)⟩,fun e_=>by cases e_⟩,rfl,rfl,fun e_=>by cases e_⟩,rfl⟩
   ·exact⟨⟨⟨⟨List.nodup_nil,fun x hx=>absurd hx (by simp)⟩,fun _=>CxV.nil⟩,rfl,rfl,fun e_=>by cases e_⟩,rfl⟩
  have aW:=notNew az a0.lt;have aX:=geTr K0.size az;clear az;clear aS aV;refine jG8 ?_;refine jV (x_not (b:=true) rfl) ?_;refine jG ?_;refine jT<|jO (litF (x_ptrNil Tryz.underlying37 rfl rfl) rfl) ?_;refine jV (x_orF rfl rfl rfl) ?_;refine jG ?_;refine Run.condF rfl ?_;refine Jct ?_;refine jV (litI (c:=ansN ao) (x_assignI rfl) (ansN_f hI0.2).symm) ?_;refine jG ?_;replace a0:=a0.ext ag;replace K0:=K0.ext ag;refine Run.loop (ι:=Nat) (fun i ρ' w'=>∃F1:Nat→Prop,∃Q:PM,Holds ρ' [(2,jp a3),(5,jp a6),(8,.int .i64 (ansN Q)),(28,.slice (ad) (ds.length) (cd)),(29,.int .i64 (((ds.length:Nat):Int))),(30,.int .i64 (((i:Nat):Int)))]∧Ext w w'∧(Blk w' a3 [.bool (bp),.int .i64 (self),.int .i64 (req),.int .i64 (id),.int .i64 (knd),.string (key),.string (item),.int .i64 (qty),.int .u64 (price),.slice (sa.ea) (va.ent.length) (sa.ec),.slice (sa.ma) (va.mrk.length) (sa.mc),.slice (sa.ca) (va.cl.length) (sa.cc),.slice (sc.ea) (vc.ent.length) (sc.ec),.slice (sc.ma) (vc.mrk.length) (sc.mc),.slice (sc.ca) (vc.cl.length) (sc.cc),.slice (al) (ts.length) (lc),.int .i64 (nd),.int .i64 (now)] 34)∧(MachAt w' a6 F1 Q)∧(¬F1 a3)∧(∀q_,F1 q_→w.heap.size≤q_)∧(i≤ds.length)∧(OInv Q now)) (fun i=>ds.length-i) 0 ?_ ?_
  ·refine⟨_,ao,⟨rfl,rfl,rfl,rfl,rfl,rfl,trivial⟩,K0,a0,aH,aW,aX,?_,?_⟩
   ·omega
   ·exact hI0.1
  clear a0 aH;clear K0;rintro i bm aI ⟨F1,Q,aJ,K0,a0,a4,ap,ac,hi,hI⟩ ih1;obtain⟨ρ₀,rfl⟩:=aJ.ex;clear aJ;refine jG ?_;refine jF ?_ ?_
  ·intro hc31
   obtain⟨bn,bo,o,ho,bq,ah⟩:=hd.eo i;have hc_33_lt:=ah.lt;refine jG1 ?_;obtain⟨tk,nw,v,s,hoe,hR0,hv,hE,hcap⟩:=hq o (List.mem_of_getElem? ho);replace ah:=ah.ext K0;refine jV (litV (v':= .agg #[.bool (tk),.int .i64 (nw),.int .i64 (v.kind),.int .i64 (v.frm),.int .i64 (v.to),.int .i64 (v.req),.string (v.key),.slice (s.ea) (v.ent.length) (s.ec),.slice (s.ma) (v.mrk.length) (s.mc),.slice (s.ca) (v.cl.length) (s.cc),.int .i64 (v.owner),.int .i64 (v.part),.int .i64 (v.n),.int .i64 (v.parts),.int .i64 (v.copies),.int .i64 (v.spots),.slice (s.ba) (v.mem.length) (s.bc),.slice (s.pa) (v.pe.length) (s.pc),.slice (s.sa) (v.su.length) (s.sc)]) (x_ldV (v:= .agg #[.bool ((o).tick),.int .i64 ((o).now),.int .i64 (((o).msg).kind),.int .i64 (((o).msg).frm),.int .i64 (((o).msg).to),.int .i64 (((o).msg).req),.string (((o).msg).key),.slice ((((o).msg).cart).entries.a) ((((o).msg).cart).entries.len) ((((o).msg).cart).entries.cap),.slice (((((o).msg).cart).ctx).marks.a) (((((o).msg).cart).ctx).marks.len) (((((o).msg).cart).ctx).marks.cap),.slice (((((o).msg).cart).ctx).cloud.a) (((((o).msg).cart).ctx).cloud.len) (((((o).msg).cart).ctx).cloud.cap),.int .i64 (((o).msg).owner),.int .i64 (((o).msg).part),.int .i64 (((o).msg).n),.int .i64 ((((o).msg).ring).parts),.int .i64 ((((o).msg).ring).copies),.int .i64 ((((o).msg).ring).spots),.slice ((((o).msg).ring).members.a) ((((o).msg).ring).members.len) ((((o).msg).ring).members.cap),.slice (((o).msg).peers.a) (((o).msg).peers.len) (((o).msg).peers.cap),.slice (((o).msg).sums.a) (((o).msg).sums.len) (((o).msg).sums.cap)]) (y:=o) ty50 rfl ah rfl) (by rw[hoe];try rfl)) ?_;refine jR<|jA ?_;intro aY bs ai a2 aA;have bt:=ltLe a0.lt ai;have bu:=ltLe ah.lt ai;have aq:=ltNo a4.own_lt ai;have:=Nat.le_trans K0.size ai;clear ai;refine jR<|jS a2 ?_;intro bv a2 aB;refine jG ?_;replace K0:=(K0.ext aA).n1 aB;refine jR<|jC (msg_ v s _ (hR0.ext K0) (by assumption)) ?_;rintro _ aK ⟨aZ,rfl,aL,bw,b0,ar⟩;clear b0;replace a4:=((a4.ext aA).keepO aB (noOne aq)).ext ar;refine jR<|jC (onA_ a6 F1 Q v aZ _ a4 hI.inv aL.r hv hE aL.ent.le_cap) ?_;replace a0:=((a0.ext aA).kp aB).ext ar;replace a2:=a2.ext ar;replace K0:=K0.ext ar;rintro _ au ⟨a1,bx,bz,bA,bB,rfl,a7,-,-,-,(⟨aC,rfl⟩|⟨aC,bC,bD,bE,rfl,-⟩),a5,-,-,-,-,-,ae⟩
   ·replace a5:MovedS aK F1 a1:=a5
    have aj:¬a1 a3:=a5.not ap a0.lt;have aM:¬a1 aY:=a5.not aq a2.lt;have ak:∀q_,a1 q_→w.heap.size≤q_:=a5.ge ac K0.size;clear a4;have he_:=ans_on0 aC;have hb_:=ansN_b Q;refine jG4 ?_;refine jG2 ?_;refine jG1 ?_;refine jV (litI (c:=0) (litI (c:=0) (x_lenSl Tryz.underlying58 rfl) rfl) rfl) ?_;refine jV (litI (c:=ansN (onN Q v)) (x_add rfl rfl (by omega) (by omega)) (by omega)) ?_;replace a2:=a2.keep ae aq;refine jG ?_;replace a0:=a0.keep ae ap;replace K0:=K0.new ae ac;refine Run.cond rfl (fun hc47=> ?_) (fun hc47=> ?_)
    ·skip
     refine jG ?_;refine jR<|jC (tickA_ a6 a1 (onN Q v) nw _ a7 ((hI).on).inv) ?_;rintro _ bF ⟨a8,bG,bH,bI,bJ,rfl,aN,-,-,-,(⟨aD,rfl⟩|⟨aD,bK,bL,bM,rfl,-⟩),a9,-,-,-,-,-,af⟩
     ·replace a9:MovedS au a1 a8:=a9
      have b1:¬a8 a3:=a9.not aj a0.lt;have b2:∀q_,a8 q_→w.heap.size≤q_:=a9.ge ak K0.size;clear a7;have he_:=ans_tick0 aD;have hb_:=ansN_b (onN Q v);refine jG4 ?_;refine jG2 ?_;refine jV (litI (c:=0) (litI (c:=0) (x_lenSl Tryz.underlying58 rfl) rfl) rfl) ?_;refine jV (litI (c:=ansN (tickN (onN Q v) nw)) (x_add rfl rfl (by omega) (by omega)) (by omega)) ?_;refine jG ?_;refine jV (litI (c:=((i+1:Nat):Int)) (x_add rfl rfl (by omega) (by omega)) rfl) ?_;refine jG ?_;refine ih1 (i+1) _ _ ?_ (by omega);replace a0:=a0.keep af aj;replace a2:=a2.keep af aM;replace K0:=K0.new af ak;refine⟨a8,(tickN (onN Q v) nw),⟨rfl,rfl,rfl,rfl,rfl,rfl,trivial⟩,K0,a0,aN,b1,b2,?_,?_⟩
      ·omega
      ·exact((hI).on).tick
     ·replace a9:MovedS au a1 a8:=a9
      have b3:¬a8 a3:=a9.not aj a0.lt;have b4:∀q_,a8 q_→w.heap.size≤q_:=a9.ge ak K0.size;clear a7;have he_:=ans_tick1 aD;have hb_:=ansN_b (onN Q v);refine jG4 ?_;refine jG2 ?_;refine jV (litI (c:=1) (litI (c:=1) (x_lenSl Tryz.underlying58 rfl) rfl) rfl) ?_;refine jV (litI (c:=ansN (tickN (onN Q v) nw)) (x_add rfl rfl (by omega) (by omega)) (by omega)) ?_;refine jG ?_;refine jV (litI (c:=((i+1:Nat):Int)) (x_add rfl rfl (by omega) (by omega)) rfl) ?_;refine jG ?_;refine ih1 (i+1) _ _ ?_ (by omega);replace a0:=a0.keep af aj;replace a2:=a2.keep af aM;replace K0:=K0.new af ak;refine⟨a8,(tickN (onN Q v) nw),⟨rfl,rfl,rfl,rfl,rfl,rfl,trivial⟩,K0,a0,aN,b3,b4,?_,?_⟩
      ·omega
      ·exact((hI).on).tick
    ·skip
     refine jG ?_;refine jV (litI (c:=((i+1:Nat):Int)) (x_add rfl rfl (by omega) (by omega)) rfl) ?_;refine jG ?_;refine ih1 (i+1) _ _ ?_ (by omega);refine⟨a1,(onN Q v),⟨rfl,rfl,rfl,rfl,rfl,rfl,trivial⟩,K0,a0,a7,aj,ak,?_,?_⟩
     ·omega
     ·exact(hI).on
   ·replace a5:MovedS aK F1 a1:=a5
    have am:¬a1 a3:=a5.not ap a0.lt;have an:∀q_,a1 q_→w.heap.size≤q_:=a5.ge ac K0.size;clear a4;have he_:=ans_on1 aC;have hb_:=ansN_b Q;refine jG4 ?_;refine jG2 ?_;refine jG1 ?_;refine jV (litI (c:=1) (litI (c:=1) (x_lenSl Tryz.underlying58 rfl) rfl) rfl) ?_;refine jV (litI (c:=ansN (onN Q v)) (x_add rfl rfl (by omega) (by omega)) (by omega)) ?_;replace a2:=a2.keep ae aq;refine jG ?_;replace a0:=a0.keep ae ap;replace K0:=K0.new ae ac;refine Run.cond rfl (fun hc47=> ?_) (fun hc47=> ?_)
    ·skip
     refine jG ?_;refine jR<|jC (tickA_ a6 a1 (onN Q v) nw _ a7 ((hI).on).inv) ?_;rintro _ bN ⟨aa,bO,bP,bQ,bR,rfl,aO,-,-,-,(⟨aE,rfl⟩|⟨aE,bS,bT,bU,rfl,-⟩),ab,-,-,-,-,-,av⟩
     ·replace ab:MovedS au a1 aa:=ab
      have b5:¬aa a3:=ab.not am a0.lt;have b6:∀q_,aa q_→w.heap.size≤q_:=ab.ge an K0.size;clear a7;have he_:=ans_tick0 aE;have hb_:=ansN_b (onN Q v);refine jG4 ?_;refine jG2 ?_;refine jV (litI (c:=0) (litI (c:=0) (x_lenSl Tryz.underlying58 rfl) rfl) rfl) ?_;refine jV (litI (c:=ansN (tickN (onN Q v) nw)) (x_add rfl rfl (by omega) (by omega)) (by omega)) ?_;refine jG ?_;refine jV (litI (c:=((i+1:Nat):Int)) (x_add rfl rfl (by omega) (by omega)) rfl) ?_;refine jG ?_;refine ih1 (i+1) _ _ ?_ (by omega);replace a0:=a0.keep av am;replace K0:=K0.new av an;refine⟨aa,(tickN (onN Q v) nw),⟨rfl,rfl,rfl,rfl,rfl,rfl,trivial⟩,K0,a0,aO,b5,b6,?_,?_⟩
      ·omega
      ·exact((hI).on).tick
     ·replace ab:MovedS au a1 aa:=ab
      have b7:¬aa a3:=ab.not am a0.lt;have b8:∀q_,aa q_→w.heap.size≤q_:=ab.ge an K0.size;clear a7;have he_:=ans_tick1 aE;have hb_:=ansN_b (onN Q v);refine jG4 ?_;refine jG2 ?_;refine jV (litI (c:=1) (litI (c:=1) (x_lenSl Tryz.underlying58 rfl) rfl) rfl) ?_;refine jV (litI (c:=ansN (tickN (onN Q v) nw)) (x_add rfl rfl (by omega) (by omega)) (by omega)) ?_;refine jG ?_;refine jV (litI (c:=((i+1:Nat):Int)) (x_add rfl rfl (by omega) (by omega)) rfl) ?_;refine jG ?_;refine ih1 (i+1) _ _ ?_ (by omega);replace a0:=a0.keep av am;replace K0:=K0.new av an;refine⟨aa,(tickN (onN Q v) nw),⟨rfl,rfl,rfl,rfl,rfl,rfl,trivial⟩,K0,a0,aO,b7,b8,?_,?_⟩
      ·omega
      ·exact((hI).on).tick
    ·skip
     refine jG ?_;refine jV (litI (c:=((i+1:Nat):Int)) (x_add rfl rfl (by omega) (by omega)) rfl) ?_;refine jG ?_;refine ih1 (i+1) _ _ ?_ (by omega);refine⟨a1,(onN Q v),⟨rfl,rfl,rfl,rfl,rfl,rfl,trivial⟩,K0,a0,a7,am,an,?_,?_⟩
     ·omega
     ·exact(hI).on
  ·intro hc31
   refine jG ?_;refine jV (x_add rfl rfl (by omega) (by omega)) ?_;refine jR<|jC (tickA_ a6 F1 Q (now+1000) _ a4 hI.inv) ?_;rintro _ bV ⟨aw,bW,bX,bY,bZ,rfl,ax,-,-,-,(⟨aF,rfl⟩|⟨aF,c0,c1,c2,rfl,-⟩),ay,-,-,-,-,-,aP⟩
   ·replace ay:MovedS aI F1 aw:=ay
    clear a4;have he_:=ans_tick0 aF;have hb_:=ansN_b Q;refine jG4 ?_;refine jG2 ?_;refine jG1 ?_;refine jV (litI (c:=0) (litI (c:=0) (x_lenSl Tryz.underlying58 rfl) rfl) rfl) ?_;refine jV (litI (c:=ansN (tickN Q (now+1000))) (x_add rfl rfl (by omega) (by omega)) (by omega)) ?_;obtain⟨hoe1,hoe2⟩:=once_end hI;refine jG2 ?_;refine jV (litT (x_eqI rfl rfl) (by rw[hoe1];rfl)) ?_;refine jG ?_;refine jT<|jC (doneM_ a6 aw (tickN Q (now+1000)) _ ax ((hI).tick).md) ?_;rintro _ c4 ⟨rfl,aQ⟩;refine jV (litT (x_andT rfl rfl rfl) hoe2) ?_;refine jG ?_;refine jJ Tryz.func6 ?_;replace K0:=(K0.new aP ac).ext aQ;replace ax:=ax.ext aQ;exact⟨_,rfl,rfl,K0⟩
   ·replace ay:MovedS aI F1 aw:=ay
    clear a4;have he_:=ans_tick1 aF;have hb_:=ansN_b Q;refine jG4 ?_;refine jG2 ?_;refine jG1 ?_;refine jV (litI (c:=1) (litI (c:=1) (x_lenSl Tryz.underlying58 rfl) rfl) rfl) ?_;refine jV (litI (c:=ansN (tickN Q (now+1000))) (x_add rfl rfl (by omega) (by omega)) (by omega)) ?_;obtain⟨hoe1,hoe2⟩:=once_end hI;refine jG2 ?_;refine jV (litT (x_eqI rfl rfl) (by rw[hoe1];rfl)) ?_;refine jG ?_;refine jT<|jC (doneM_ a6 aw (tickN Q (now+1000)) _ ax ((hI).tick).md) ?_;rintro _ c5 ⟨rfl,b9⟩;refine jV (litT (x_andT rfl rfl rfl) hoe2) ?_;refine jG ?_;refine jJ Tryz.func6 ?_;replace K0:=(K0.new aP ac).ext b9;exact⟨_,rfl,rfl,K0⟩
end Go.Proofs.YtocgdeefgohdhaaGreat
