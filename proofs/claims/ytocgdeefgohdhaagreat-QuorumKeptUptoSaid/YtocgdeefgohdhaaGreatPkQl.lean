/-
  Ql
-/
import Derived.Test.YtocgdeefgohdhaaGreatRows
import Derived.Test.YtocgdeefgohdhaaGreatPkQk
import Derived.Test.YtocgdeefgohdhaaGreatPkMap
import Derived.Test.YtocgdeefgohdhaaGreatPkI
set_option linter.all false
set_option maxRecDepth 100000
set_option maxHeartbeats 4000000
namespace Go.Proofs.YtocgdeefgohdhaaGreat
attribute [local irreducible] RD RS St1 RL RA RT RT1 Run
structure QDoC where
 tick:Bool
 now:Int
 msg:MsgC
instance : Enc QDoC:=Enc.struct (fun t=>[.bool ((t).tick),.int .i64 ((t).now),.int .i64 (((t).msg).kind),.int .i64 (((t).msg).frm),.int .i64 (((t).msg).to),.int .i64 (((t).msg).req),.string (((t).msg).key),.slice ((((t).msg).cart).entries.a) ((((t).msg).cart).entries.len) ((((t).msg).cart).entries.cap),.slice (((((t).msg).cart).ctx).marks.a) (((((t).msg).cart).ctx).marks.len) (((((t).msg).cart).ctx).marks.cap),.slice (((((t).msg).cart).ctx).cloud.a) (((((t).msg).cart).ctx).cloud.len) (((((t).msg).cart).ctx).cloud.cap),.int .i64 (((t).msg).owner),.int .i64 (((t).msg).part),.int .i64 (((t).msg).n),.int .i64 ((((t).msg).ring).parts),.int .i64 ((((t).msg).ring).copies),.int .i64 ((((t).msg).ring).spots),.slice ((((t).msg).ring).members.a) ((((t).msg).ring).members.len) ((((t).msg).ring).members.cap),.slice (((t).msg).peers.a) (((t).msg).peers.len) (((t).msg).peers.cap),.slice (((t).msg).sums.a) (((t).msg).sums.len) (((t).msg).sums.cap)]) 19 (fun _=>rfl) (fun _ v hv=>by simp at hv;rcases hv with rfl|rfl|rfl|rfl|rfl|rfl|rfl|rfl|rfl|rfl|rfl|rfl|rfl|rfl|rfl|rfl|rfl|rfl|rfl<;>rfl) (by decide)
def QDoOk (w:World)(o:QDoC):Prop:=∃tk nw v s,o=⟨tk,nw,mkC v s⟩∧SixR w s v∧VOk v∧EntB v.ent∧v.ent.length≤s.ec
def akT (tk:List Int):List (Int×Value):=tk.map fun a=>(a,.bool true)
theorem akT_get (tk : List Int) (a : Int) : (mget (akT tk) a).getD (.bool false) = .bool (decide (a ∈ tk)) := by
  induction tk with
  | nil => rfl
  | cons x tk ih =>
    unfold mget akT at *
    rw [List.map_cons, List.find?_cons]
    by_cases h : a = x
    · subst h; simp
    · rw [show decide (a = x) = false from decide_eq_false h]
      simp only [List.mem_cons, h, false_or]
      exact ih
theorem akT_none {tk:List Int}{a:Int}(h:a∉tk):mget (akT tk) a=none:=by
 unfold mget akT
 rw[Option.map_eq_none_iff,List.find?_eq_none]
 intro p hp
 obtain⟨x,hx,rfl⟩:=List.mem_map.1 hp
 exact fun e=>h (of_decide_eq_true e▸hx)
theorem akT_put {tk:List Int}{a:Int}(h:a∉tk):mput (akT tk) a (.bool true)=akT (tk++[a]):=by
 have h1:=mfind_get a (akT tk) 0
 rw[akT_none h]at h1
 unfold mput
 rw[Option.map_eq_none_iff.1 h1,akT,akT,List.map_append];rfl
section
variable {Q :PM}{v:MV}{req nd:Int}{ts:List TargetC}{k:Int}
theorem onPut_told (h:onS (pAdd Q v) (putS (pAdd Q v))≠0):Q.answered=false∧putS (pAdd Q v)≠0∧onS (pAdd Q v) (putS (pAdd Q v))=putS (pAdd Q v)∧(onPut Q v).answered=true:=by
 have h1:Q.answered=false:=by
  cases ha:Q.answered with
  |false=>rfl
  |true=>exact absurd (by unfold onS;rw[if_pos (show(pAdd Q v).answered=true from ha)]) h
 have e:onS (pAdd Q v) (putS (pAdd Q v))=putS (pAdd Q v):=by unfold onS;rw[if_neg (by rw[show(pAdd Q v).answered=false from h1];decide)]
 rw[e]at h
 refine⟨h1,h,e,?_⟩
 show(Q.answered||decide (putS (pAdd Q v)≠0))=true
 rw[decide_eq_true h,Bool.or_true]
theorem onPut_quiet (h : onS (pAdd Q v) (putS (pAdd Q v)) = 0) : (onPut Q v).answered = Q.answered ∧ (Q.answered = false → putS (pAdd Q v) = 0) := by
  cases ha : Q.answered with
  | true => exact ⟨by show (Q.answered || decide (putS (pAdd Q v) ≠ 0)) = true; rw [ha, Bool.true_or], fun e => by cases e⟩
  | false =>
    have e : onS (pAdd Q v) (putS (pAdd Q v)) = putS (pAdd Q v) := by unfold onS; rw [if_neg (by rw [show (pAdd Q v).answered = false from ha]; decide)]
    rw [e] at h
    exact ⟨by show (Q.answered || decide (putS (pAdd Q v) ≠ 0)) = false; rw [ha, Bool.false_or]; exact decide_eq_false (not_not_intro h), fun _ => h⟩
theorem putS_lt (h:putS Q=0):(keptN Q.got:Int)<Q.need:=Int.not_le.1 fun h2=>by rw[putS_200 h2]at h;omega
theorem putS_iff :putS Q=200↔Q.need≤(keptN Q.got:Int):=by
 refine⟨fun h=>Decidable.byContradiction fun h2=> ?_,putS_200⟩
 unfold putS at h
 rw[if_neg h2]at h
 split at h
 ·omega
 ·split at h<;>omega
theorem keptN_add :keptN (pAdd Q v).got=keptN Q.got+(if v.n=0 then 1 else 0):=keptN_app Q.got v
theorem kept_told (h:onS (pAdd Q v) (putS (pAdd Q v))≠0)(hk:k=((keptN (pAdd Q v).got:Nat):Int))(hn:Q.need=nd):(!(((onS (pAdd Q v) (putS (pAdd Q v)))==200)==decide (nd≤k)))=false:=by
 have e:((onS (pAdd Q v) (putS (pAdd Q v)))==200)=decide (nd≤k):=by
  rw[(onPut_told h).2.2.1,Bool.eq_iff_iff,beq_iff_eq,decide_eq_true_eq,hk,←hn]
  exact putS_iff (Q:=pAdd Q v)
 rw[e,beq_self_eq_true];rfl
theorem kept_not {a:Bool}(h:a=false→k<nd):(!a&&decide (nd≤k))=false:=by
 cases a with
 |true=>rfl
 |false=>rw[decide_eq_false (by have:=h rfl;omega)];rfl
theorem kept_on (hmd:Q.made=true)(hdn:Q.done=false)(hput:Q.put=true)(hreq:Q.req=req)(hts:Q.targets=ts):
  onOk Q v=((((v.kind==2)&&(v.req==req))&&(ts.any fun t=>decide (t.node=v.frm)))&& !(decide (v.frm∈Q.got.map MV.frm))):=by
 subst hreq;subst hts
 unfold onOk openP
 rw[hmd,hdn,if_pos hput,Bool.eq_iff_iff]
 have e:(Q.got.any fun x=>decide (x.frm=v.frm))=decide (v.frm∈Q.got.map MV.frm):=by
  rw[Bool.eq_iff_iff,List.any_eq_true,decide_eq_true_eq,List.mem_map]
  exact⟨fun⟨x,hx,h⟩=>⟨x,hx,of_decide_eq_true h⟩,fun⟨x,hx,h⟩=>⟨x,hx,decide_eq_true h⟩⟩
 rw[e]
 simp only[Bool.and_eq_true,decide_eq_true_eq,beq_iff_eq,Bool.not_eq_true',Bool.true_and,Bool.not_false,and_assoc]
theorem POk.le (h:POk Q):Q.got.length≤Q.targets.length:=by
 have:=nodup_le (l:=Q.got.map MV.frm) (m:=Q.targets.map TargetC.node) h.1 (fun x hx=>by
  obtain⟨u,hu,rfl⟩:=List.mem_map.1 hx;obtain⟨t,ht,he⟩:=h.2 u hu;exact List.mem_map.2 ⟨t,ht,he⟩)
 simpa using this
theorem onPut_ok (h:POk Q)(ho:onOk Q v=true):POk (onPut Q v):=by
 have h2:openP Q v.frm=true:=by unfold onOk at ho;rw[Bool.and_eq_true]at ho;exact ho.2
 exact h.add h2
end
attribute [local irreducible] X
theorem keptF_ (t:TargetC)(b:Nat)(tk:Bool)(nw:Int)(v:MV)(s:Six)(w:World)(hx:Blk w b [.bool (tk),.int .i64 (nw),.int .i64 (v.kind),.int .i64 (v.frm),.int .i64 (v.to),.int .i64 (v.req),.string (v.key),.slice (s.ea) (v.ent.length) (s.ec),.slice (s.ma) (v.mrk.length) (s.mc),.slice (s.ca) (v.cl.length) (s.cc),.int .i64 (v.owner),.int .i64 (v.part),.int .i64 (v.n),.int .i64 (v.parts),.int .i64 (v.copies),.int .i64 (v.spots),.slice (s.ba) (v.mem.length) (s.bc),.slice (s.pa) (v.pe.length) (s.pc),.slice (s.sa) (v.su.length) (s.sc)] 50):
  Calls Tryz.prog 15 #[.agg #[.int .i64 ((t).node),.int .i64 ((t).owner)],jp b] w (Ret (fun r w'=>r= .bool (decide (t.node=v.frm))∧Ext w w')):=by
 refine calls_run (n:=10) Tryz.func15 rfl rfl rfl ?_;refine jG ?_;refine jR<|jB ?_;intro a2 a3 a0 a4 a1;have a5:=ltLe hx.lt a0;have:w.heap.size≤a2:=a0;clear a0;have K0:=(a1:Ext w _);replace hx:=hx.ext a1;refine jG ?_;refine jJ Tryz.func15 ?_;exact⟨_,rfl,congrArg Value.bool (by rw[Bool.eq_iff_iff];simp),K0⟩
theorem law_kept (bp:Bool)(self req nd now:Int)(id knd qty price:Int)(key item:ByteArray)(va:MV)(sa:Six)(al:Option Addr)(ts:List TargetC)(lc:Nat)(vc:MV)(sc:Six)(ad:Option Addr)(ds:List QDoC)(cd:Nat)(w:World)(hA:CartR w sa va)(hoa:CartOk va sa)(hl:SlOf w al ts)(hll:ts.length≤1048576)(hlc:ts.length≤lc)(hC:CartR w sc vc)(hoc:CartOk vc sc)(hd:SlOf w ad ds)(hdl:ds.length≤1048576)(hq:∀o∈ds,QDoOk w o):
  Calls Tryz.prog 4 #[.agg #[.bool (bp),.int .i64 (self),.int .i64 (req),.int .i64 (id),.int .i64 (knd),.string (key),.string (item),.int .i64 (qty),.int .u64 (price),.slice (sa.ea) (va.ent.length) (sa.ec),.slice (sa.ma) (va.mrk.length) (sa.mc),.slice (sa.ca) (va.cl.length) (sa.cc),.slice (sc.ea) (vc.ent.length) (sc.ec),.slice (sc.ma) (vc.mrk.length) (sc.mc),.slice (sc.ca) (vc.cl.length) (sc.cc),.slice (al) (ts.length) (lc),.int .i64 (nd),.int .i64 (now)],.slice (ad) (ds.length) (cd)] w (Ret (fun r w'=>r= .bool true∧Ext w w')):=by
 obtain⟨ha1,ha2,ha3,-,-,-⟩:=hoa.ok;obtain⟨hc1,hc2,hc3,-,-,-⟩:=hoc.ok;refine calls_run (n:=113) Tryz.func4 rfl rfl rfl ?_;refine jG ?_;refine jR<|jB ?_;intro a8 c0 aS a0 b7;have:w.heap.size≤a8:=aS;clear aS;have K0:=(b7:Ext w _);refine jG ?_;refine jR<|jS a0 ?_;intro c1 a0 b8;refine jG ?_;replace K0:=K0.n1 b8;refine jR<|jC (lbeginP_ self req nd now id knd qty price key item va sa al ts lc vc sc _ (hA.ext K0) hoa (hl.ext K0) hll hlc (hC.ext K0) hoc) ?_;rintro _ c2 (⟨c4,rfl,-,ar⟩|⟨b9,ak,c5,c6,c7,rfl,au,bb,aP,be,c8,ar⟩)
 ·replace a0:=a0.ext ar
  refine jG8 ?_;refine jV (x_not (b:=true) rfl) ?_;refine jG ?_;refine jT<|jO (litT (x_ptrNil Tryz.underlying37 rfl rfl) rfl) ?_;refine jV (x_orF rfl rfl rfl) ?_;refine jG ?_;refine jT1 ?_;refine jG ?_;refine jJ Tryz.func4 ?_;replace K0:=K0.ext ar;exact⟨_,rfl,rfl,K0⟩
 ·have hz4:=(begE_zero b9).1
  unfold begA at hz4;have bg:=notNew aP a0.lt;have bh:=geTr K0.size aP;clear aP;clear bb be;refine jG8 ?_;refine jV (x_not (b:=true) rfl) ?_;refine jG ?_;refine jT<|jO (litF (x_ptrNil Tryz.underlying37 rfl rfl) rfl) ?_;refine jV (x_orF rfl rfl rfl) ?_;refine jG ?_;refine Run.condF rfl ?_;refine jG ?_;refine jR<|St1.makeMap (κ:=Int) ?_;intro a6 c9 aH aT aQ;replace a0:=a0.ext ar;have bi:=notNew (ge_one aH) a0.lt;have bj:=apartNew (ge_one aH) au.own_lt;replace K0:=K0.ext ar;have bk:=geTr K0.size (ge_one aH);clear aH;refine jG ?_;replace a0:=a0.ext aQ;replace au:=au.ext aQ;replace K0:=K0.ext aQ;refine Run.loop (ι:=Nat) (fun i ρ' w'=>∃F1:Nat→Prop,∃Q:PM,Holds ρ' [(2,jp a8),(5,jp ak),(8,.map (some a6)),(9,.int .i64 (((keptN Q.got:Nat):Int))),(10,.bool (Q.answered)),(33,.slice (ad) (ds.length) (cd)),(34,.int .i64 (((ds.length:Nat):Int))),(35,.int .i64 (((i:Nat):Int)))]∧Ext w w'∧(Blk w' a8 [.bool (true),.int .i64 (self),.int .i64 (req),.int .i64 (id),.int .i64 (knd),.string (key),.string (item),.int .i64 (qty),.int .u64 (price),.slice (sa.ea) (va.ent.length) (sa.ec),.slice (sa.ma) (va.mrk.length) (sa.mc),.slice (sa.ca) (va.cl.length) (sa.cc),.slice (sc.ea) (vc.ent.length) (sc.ec),.slice (sc.ma) (vc.mrk.length) (sc.mc),.slice (sc.ca) (vc.cl.length) (sc.cc),.slice (al) (ts.length) (lc),.int .i64 (nd),.int .i64 (now)] 34)∧(MachAt w' ak F1 Q)∧(MapAt w' a6 (akT (Q.got.map MV.frm)))∧(¬F1 a8)∧(∀q_,F1 q_→¬one a6 q_)∧(∀q_,F1 q_→w.heap.size≤q_)∧(¬one a6 a8)∧(∀q_,one a6 q_→w.heap.size≤q_)∧(i≤ds.length)∧(POk Q)∧(Q.put=true)∧(Q.made=true)∧(Q.req=req)∧(Q.targets=ts)∧(Q.need=nd)∧(Q.answered=false→((keptN Q.got:Nat):Int)<nd)) (fun i=>ds.length-i) 0 ?_ ?_
  ·refine⟨_,(⟨self,req,nd,now,id,key,va,ts,[],false,false,true,0,true,vc,0,false⟩:PM),⟨rfl,rfl,rfl,rfl,rfl,rfl,rfl,rfl,trivial⟩,K0,a0,au,aT,bg,(fun q_ h1 h2=>bj q_ h2 h1),bh,bi,bk,?_,?_,?_,?_,?_,?_,?_,?_⟩
   ·omega
   ·exact⟨List.nodup_nil,fun x hx=>absurd hx (by simp)⟩
   ·rfl
   ·rfl
   ·rfl
   ·rfl
   ·rfl
   ·exact fun _=>by show((0:Nat):Int)<nd;omega
  clear a0 au aT;clear K0;rintro i cb ce ⟨F1,Q,aU,K0,a0,a3,a1,a9,a7,aa,am,an,hi,hP,hput,hmd,hrq,hts,hnd,hans⟩ ih1;obtain⟨ρ₀,rfl⟩:=aU.ex;clear aU;refine jG ?_;refine jF ?_ ?_
  ·intro hc36
   obtain⟨cf,cg,o,ho,ch,av⟩:=hd.eo i;have hc_44_lt:=av.lt;refine jG1 ?_;obtain⟨tk,nw,v,s,hoe,hR0,hv,hE,hcap⟩:=hq o (List.mem_of_getElem? ho);replace av:=av.ext K0;refine jV (litV (v':= .agg #[.bool (tk),.int .i64 (nw),.int .i64 (v.kind),.int .i64 (v.frm),.int .i64 (v.to),.int .i64 (v.req),.string (v.key),.slice (s.ea) (v.ent.length) (s.ec),.slice (s.ma) (v.mrk.length) (s.mc),.slice (s.ca) (v.cl.length) (s.cc),.int .i64 (v.owner),.int .i64 (v.part),.int .i64 (v.n),.int .i64 (v.parts),.int .i64 (v.copies),.int .i64 (v.spots),.slice (s.ba) (v.mem.length) (s.bc),.slice (s.pa) (v.pe.length) (s.pc),.slice (s.sa) (v.su.length) (s.sc)]) (x_ldV (v:= .agg #[.bool ((o).tick),.int .i64 ((o).now),.int .i64 (((o).msg).kind),.int .i64 (((o).msg).frm),.int .i64 (((o).msg).to),.int .i64 (((o).msg).req),.string (((o).msg).key),.slice ((((o).msg).cart).entries.a) ((((o).msg).cart).entries.len) ((((o).msg).cart).entries.cap),.slice (((((o).msg).cart).ctx).marks.a) (((((o).msg).cart).ctx).marks.len) (((((o).msg).cart).ctx).marks.cap),.slice (((((o).msg).cart).ctx).cloud.a) (((((o).msg).cart).ctx).cloud.len) (((((o).msg).cart).ctx).cloud.cap),.int .i64 (((o).msg).owner),.int .i64 (((o).msg).part),.int .i64 (((o).msg).n),.int .i64 ((((o).msg).ring).parts),.int .i64 ((((o).msg).ring).copies),.int .i64 ((((o).msg).ring).spots),.slice ((((o).msg).ring).members.a) ((((o).msg).ring).members.len) ((((o).msg).ring).members.cap),.slice (((o).msg).peers.a) (((o).msg).peers.len) (((o).msg).peers.cap),.slice (((o).msg).sums.a) (((o).msg).sums.len) (((o).msg).sums.cap)]) (y:=o) ty50 rfl av rfl) (by rw[hoe];try rfl)) ?_;refine jR<|jA ?_;intro aV ci ao a2 aI;have cj:=ltLe a0.lt ao;have ck:=ltLe av.lt ao;have aw:=ltNo a3.own_lt ao;have aW:=ltNo a1.own_lt ao;have:=Nat.le_trans K0.size ao;clear ao;refine jR<|jS a2 ?_;intro cm a2 aJ;replace a0:=(a0.ext aI).kp aJ;refine jG ?_;refine jV (x_mkFunc (a:=[]) (c:=[jp aV]) rfl rfl) ?_;replace K0:=(K0.ext aI).n1 aJ;refine jR<|jC (containsFunc_t _ _ _ 15 _ (fun t=>decide (t.node=v.frm)) en15.h _ (hl.ext K0) (by omega) (fun t _ w' K'=>keptF_ t aV tk nw v s w' (a2.ext K'))) ?_;rintro _ cn ⟨rfl,ax⟩;refine jG ?_;replace a3:=((a3.ext aI).keepO aJ (noOne aw)).ext ax;refine jR<|jC (doneM_ ak F1 Q _ a3 hmd) ?_;rintro _ co ⟨rfl,ay⟩;refine jG ?_;replace a1:=(((a1.ext aI).keepO aJ (noOne aW)).ext ax).ext ay;replace a0:=(a0.ext ax).ext ay;replace a2:=(a2.ext ax).ext ay;replace K0:=(K0.ext ax).ext ay;replace a3:=a3.ext ay;refine Run.cond rfl (fun hc44=> ?_) (fun hc44=> ?_)
   ·skip
    refine jG ?_;refine jJ Tryz.func4 ?_;exact⟨_,rfl,rfl,K0⟩
   ·skip
    have hdn:Q.done=false:=by simpa using hc44
    refine Jct ?_;by_cases hon:onOk Q v=true
    ·refine jG ?_
     refine jV (x_and rfl rfl rfl) ?_;refine jG ?_;refine jV (x_and rfl rfl rfl) ?_;refine jG ?_;refine jW ?_ (hx:=by exact fun hg=>(litV (v':= .bool (decide (v.frm∈(Q.got.map MV.frm)))) (x_lookup (κ:=Int) (a:=v.frm) Tryz.underlying41 Tryz.underlying3 rfl ty4 (gvr hg) (gvr hg) a1) (akT_get _ _)));refine jG ?_;refine jV (litT (x_and rfl rfl rfl) (by rw[←kept_on hmd hdn hput hrq hts];exact hon)) ?_;refine jG ?_;refine jT1 ?_;have hnt:v.frm∉Q.got.map MV.frm:=by have h_:=hon;rw[kept_on hmd hdn hput hrq hts,Bool.and_eq_true]at h_;simpa using h_.2
     refine jG ?_;refine jR<|St1.mapUpdate (κ:=Int) (a:=v.frm) (v:= .bool (true)) Tryz.underlying41 Tryz.underlying3 rfl rfl rfl rfl a1 ?_;intro bl aK aL;replace aK:MapAt bl a6 (akT ((Q.got.map MV.frm)++[v.frm])):=(akT_put hnt▸aK);replace a1:=aK;clear aK;replace a2:=a2.keep aL aW;refine jG ?_;replace a0:=a0.keep aL am;replace a3:=a3.keepO aL a7;replace K0:=K0.new aL an;refine jF ?_ ?_
     ·intro hc75
      have hkl:=keptN_le Q.got;have hpl:=hP.le;rw[hts]at hpl;refine jG ?_;refine jV (litI (c:=(((keptN Q.got)+1:Nat):Int)) (x_add rfl rfl (by omega) (by omega)) rfl) ?_;refine jG ?_;refine jR<|jC (msg_ v s _ (hR0.ext K0) (by assumption)) ?_;rintro _ aX ⟨bm,rfl,aY,cp,bn,az⟩;clear bn;replace a3:=a3.ext az;refine jR<|jC (onP_ ak F1 Q v bm _ a3 hput hP aY.r hv hE aY.ent.le_cap) ?_;replace a0:=a0.ext az;replace a1:=a1.ext az;replace a2:=a2.ext az;replace K0:=K0.ext az;rintro _ cq ⟨ab,cr,rfl,(⟨h0_79,ap,rfl⟩|⟨h0_79,ap,(⟨aM,rfl⟩|⟨aM,cs,ct,a4,rfl,bo,cu,cv,bq,cw,cx,cy,cz⟩)⟩),ac,ag⟩
      ·exact absurd hon (by rw[h0_79];decide)
      ·replace ac:MovedS aX F1 ab:=ac
       have bs:¬ab a8:=ac.not a9 a0.lt;have bt:∀q_,ab q_→¬one a6 q_:=ac.apart a7 a1.own_lt;have bu:∀q_,ab q_→w.heap.size≤q_:=ac.ge aa K0.size;clear a3;have hqt:=onPut_quiet aM;refine jG4 ?_;refine jG2 ?_;refine jV (litI (c:=0) (x_lenSl Tryz.underlying58 rfl) rfl) ?_;refine jG ?_;refine Run.unloop ?_;refine jG ?_;refine Run.condF rfl ?_;replace a0:=a0.keep ag a9;refine jG ?_;refine jV (litF (x_and rfl rfl rfl) (kept_not fun ha_=>by have h_:=putS_lt (hqt.2 ha_);rw[keptN_add,if_pos hc75]at h_;have h2_:(pAdd Q v).need=nd:=hnd;omega)) ?_;refine jG ?_;refine Run.condF rfl ?_;refine jG ?_;refine jV (litI (c:=((i+1:Nat):Int)) (x_add rfl rfl (by omega) (by omega)) rfl) ?_;refine jG ?_;have e1:keptN (onPut Q v).got=keptN Q.got+1:=by rw[show(onPut Q v).got=(pAdd Q v).got from rfl,keptN_add,if_pos hc75]
       have e2:(onPut Q v).answered=Q.answered:=hqt.1;have e3:(onPut Q v).got.map MV.frm=Q.got.map MV.frm++[v.frm]:=List.map_append;refine ih1 (i+1) _ _ ?_ (by omega);refine⟨ab,(onPut Q v),?_⟩;rw[e1,e2,e3];replace a1:=a1.keepO ag (fun q_ h1 h2=>a7 q_ h2 h1);replace a2:=a2.keep ag aw;replace K0:=K0.new ag aa;refine⟨⟨rfl,rfl,rfl,rfl,rfl,rfl,rfl,rfl,trivial⟩,K0,a0,ap,a1,bs,bt,bu,am,an,?_,?_,?_,?_,?_,?_,?_,?_⟩
       ·omega
       ·exact onPut_ok hP hon
       ·exact hput
       ·exact hmd
       ·exact hrq
       ·exact hts
       ·exact hnd
       ·exact fun ha_=>by have h_:=putS_lt (hqt.2 ha_);rw[keptN_add,if_pos hc75]at h_;have h2_:(pAdd Q v).need=nd:=hnd;omega
      ·have cA:=notNew bq a0.lt
       replace ac:MovedS aX F1 ab:=ac;have bv:¬ab a8:=ac.not a9 a0.lt;have bw:∀q_,ab q_→¬one a6 q_:=ac.apart a7 a1.own_lt;have bx:∀q_,ab q_→w.heap.size≤q_:=ac.ge aa K0.size;clear a3;have htd:=onPut_told aM;refine jG4 ?_;refine jG2 ?_;refine jV (litI (c:=1) (x_lenSl Tryz.underlying58 rfl) rfl) ?_;refine jG ?_;refine Run.unloop ?_;refine jG ?_;refine jT1 ?_;refine Jct ?_;obtain⟨cB,cC,bz,bA,bB,aZ⟩:=bo.sl.el (i:=0) (by simp);obtain rfl:(⟨Q.id,(onS (pAdd Q v) (putS (pAdd Q v))),(mkC (toldV Q.cart (putS (pAdd Q v))) a4).cart⟩:ToldC)=bz:=Option.some.inj bA;refine jV (x_idxN Tryz.underlying58 ty63 rfl rfl bB (by simp)) ?_;refine jV (x_ldV (v:= .agg #[.int .i64 (((⟨Q.id,(onS (pAdd Q v) (putS (pAdd Q v))),(mkC (toldV Q.cart (putS (pAdd Q v))) a4).cart⟩:ToldC)).id),.int .i64 (((⟨Q.id,(onS (pAdd Q v) (putS (pAdd Q v))),(mkC (toldV Q.cart (putS (pAdd Q v))) a4).cart⟩:ToldC)).status),.slice ((((⟨Q.id,(onS (pAdd Q v) (putS (pAdd Q v))),(mkC (toldV Q.cart (putS (pAdd Q v))) a4).cart⟩:ToldC)).cart).entries.a) ((((⟨Q.id,(onS (pAdd Q v) (putS (pAdd Q v))),(mkC (toldV Q.cart (putS (pAdd Q v))) a4).cart⟩:ToldC)).cart).entries.len) ((((⟨Q.id,(onS (pAdd Q v) (putS (pAdd Q v))),(mkC (toldV Q.cart (putS (pAdd Q v))) a4).cart⟩:ToldC)).cart).entries.cap),.slice (((((⟨Q.id,(onS (pAdd Q v) (putS (pAdd Q v))),(mkC (toldV Q.cart (putS (pAdd Q v))) a4).cart⟩:ToldC)).cart).ctx).marks.a) (((((⟨Q.id,(onS (pAdd Q v) (putS (pAdd Q v))),(mkC (toldV Q.cart (putS (pAdd Q v))) a4).cart⟩:ToldC)).cart).ctx).marks.len) (((((⟨Q.id,(onS (pAdd Q v) (putS (pAdd Q v))),(mkC (toldV Q.cart (putS (pAdd Q v))) a4).cart⟩:ToldC)).cart).ctx).marks.cap),.slice (((((⟨Q.id,(onS (pAdd Q v) (putS (pAdd Q v))),(mkC (toldV Q.cart (putS (pAdd Q v))) a4).cart⟩:ToldC)).cart).ctx).cloud.a) (((((⟨Q.id,(onS (pAdd Q v) (putS (pAdd Q v))),(mkC (toldV Q.cart (putS (pAdd Q v))) a4).cart⟩:ToldC)).cart).ctx).cloud.len) (((((⟨Q.id,(onS (pAdd Q v) (putS (pAdd Q v))),(mkC (toldV Q.cart (putS (pAdd Q v))) a4).cart⟩:ToldC)).cart).ctx).cloud.cap)]) (y:=(⟨Q.id,(onS (pAdd Q v) (putS (pAdd Q v))),(mkC (toldV Q.cart (putS (pAdd Q v))) a4).cart⟩:ToldC)) ty63 rfl aZ rfl) ?_;refine jR<|jA ?_;intro cD cE ai b0 aA;replace a0:=a0.keep ag a9;have cF:=ltLe a0.lt ai;replace a2:=a2.keep ag aw;have cG:=ltLe a2.lt ai;have cH:=ltLe aZ.lt ai;replace a1:=a1.keepO ag (fun q_ h1 h2=>a7 q_ h2 h1);have bC:=ltNo a1.own_lt ai;have bD:=ltNo ap.own_lt ai;replace K0:=K0.new ag aa;have:=Nat.le_trans K0.size ai;clear ai;refine jR<|jS b0 ?_;intro cI b0 aB;refine Jct ?_;refine jV (litF (x_moveB rfl) htd.1) ?_;replace a0:=(a0.ext aA).kp aB;refine jG ?_;refine jT<|jO (x_neB Tryz.underlying4 rfl rfl) ?_;refine jV (litF (x_orF rfl rfl rfl) (kept_told aM (by rw[keptN_add,if_pos hc75];try rfl) hnd)) ?_;refine jG ?_;refine Run.condF rfl ?_;refine jG ?_;refine jV (litI (c:=1) (litI (c:=1) (x_add rfl rfl (by decide) (by decide)) (by decide)) rfl) ?_;refine jG ?_;refine Run.inLoop ?_;refine jG ?_;refine Run.condF rfl ?_;refine jG1 ?_;refine jV (x_not (b:=true) rfl) ?_;refine jG ?_;refine jV (x_and (b:=false) (e:=false) rfl rfl rfl) ?_;refine jG ?_;refine Run.condF rfl ?_;refine jG ?_;refine jV (litI (c:=((i+1:Nat):Int)) (x_add rfl rfl (by omega) (by omega)) rfl) ?_;refine jG ?_;have e1:keptN (onPut Q v).got=keptN Q.got+1:=by rw[show(onPut Q v).got=(pAdd Q v).got from rfl,keptN_add,if_pos hc75]
       have e2:(onPut Q v).answered=true:=htd.2.2.2;have e3:(onPut Q v).got.map MV.frm=Q.got.map MV.frm++[v.frm]:=List.map_append;refine ih1 (i+1) _ _ ?_ (by omega);refine⟨ab,(onPut Q v),?_⟩;rw[e1,e2,e3];replace a1:=(a1.ext aA).keepO aB (noOne bC);replace a2:=(a2.ext aA).kp aB;replace ap:=(ap.ext aA).keepO aB (noOne bD);replace K0:=(K0.ext aA).n1 aB;refine⟨⟨rfl,rfl,rfl,rfl,rfl,rfl,rfl,rfl,trivial⟩,K0,a0,ap,a1,bv,bw,bx,am,an,?_,?_,?_,?_,?_,?_,?_,?_⟩
       ·omega
       ·exact onPut_ok hP hon
       ·exact hput
       ·exact hmd
       ·exact hrq
       ·exact hts
       ·exact hnd
       ·exact fun ha_=>by cases ha_
     ·intro hc75
      refine jG ?_;refine jR<|jC (msg_ v s _ (hR0.ext K0) (by assumption)) ?_;rintro _ b1 ⟨bE,rfl,b2,cJ,bF,aC⟩;clear bF;replace a3:=a3.ext aC;refine jR<|jC (onP_ ak F1 Q v bE _ a3 hput hP b2.r hv hE b2.ent.le_cap) ?_;replace a0:=a0.ext aC;replace a1:=a1.ext aC;replace a2:=a2.ext aC;replace K0:=K0.ext aC;rintro _ cK ⟨ae,cL,rfl,(⟨h0_150,aq,rfl⟩|⟨h0_150,aq,(⟨aN,rfl⟩|⟨aN,cM,cN,a5,rfl,bG,cO,cP,bH,cQ,cR,cS,cT⟩)⟩),af,ah⟩
      ·exact absurd hon (by rw[h0_150];decide)
      ·replace af:MovedS b1 F1 ae:=af
       have bI:¬ae a8:=af.not a9 a0.lt;have bJ:∀q_,ae q_→¬one a6 q_:=af.apart a7 a1.own_lt;have bK:∀q_,ae q_→w.heap.size≤q_:=af.ge aa K0.size;clear a3;have hqt:=onPut_quiet aN;refine jG4 ?_;refine jG2 ?_;refine jV (litI (c:=0) (x_lenSl Tryz.underlying58 rfl) rfl) ?_;refine jG ?_;refine Run.unloop ?_;refine jG ?_;refine Run.condF rfl ?_;replace a0:=a0.keep ah a9;refine jG ?_;refine jV (litF (x_and rfl rfl rfl) (kept_not fun ha_=>by have h_:=putS_lt (hqt.2 ha_);rw[keptN_add,if_neg hc75]at h_;have h2_:(pAdd Q v).need=nd:=hnd;omega)) ?_;refine jG ?_;refine Run.condF rfl ?_;refine jG ?_;refine jV (litI (c:=((i+1:Nat):Int)) (x_add rfl rfl (by omega) (by omega)) rfl) ?_;refine jG ?_;have e1:keptN (onPut Q v).got=keptN Q.got:=by rw[show(onPut Q v).got=(pAdd Q v).got from rfl,keptN_add,if_neg hc75];try rfl
       have e2:(onPut Q v).answered=Q.answered:=hqt.1;have e3:(onPut Q v).got.map MV.frm=Q.got.map MV.frm++[v.frm]:=List.map_append;refine ih1 (i+1) _ _ ?_ (by omega);refine⟨ae,(onPut Q v),?_⟩;rw[e1,e2,e3];replace a1:=a1.keepO ah (fun q_ h1 h2=>a7 q_ h2 h1);replace a2:=a2.keep ah aw;replace K0:=K0.new ah aa;refine⟨⟨rfl,rfl,rfl,rfl,rfl,rfl,rfl,rfl,trivial⟩,K0,a0,aq,a1,bI,bJ,bK,am,an,?_,?_,?_,?_,?_,?_,?_,?_⟩
       ·omega
       ·exact onPut_ok hP hon
       ·exact hput
       ·exact hmd
       ·exact hrq
       ·exact hts
       ·exact hnd
       ·exact fun ha_=>by have h_:=putS_lt (hqt.2 ha_);rw[keptN_add,if_neg hc75]at h_;have h2_:(pAdd Q v).need=nd:=hnd;omega
      ·have cU:=notNew bH a0.lt
       replace af:MovedS b1 F1 ae:=af;have bL:¬ae a8:=af.not a9 a0.lt;have bM:∀q_,ae q_→¬one a6 q_:=af.apart a7 a1.own_lt;have bN:∀q_,ae q_→w.heap.size≤q_:=af.ge aa K0.size;clear a3;have htd:=onPut_told aN;refine jG4 ?_;refine jG2 ?_;refine jV (litI (c:=1) (x_lenSl Tryz.underlying58 rfl) rfl) ?_;refine jG ?_;refine Run.unloop ?_;refine jG ?_;refine jT1 ?_;refine Jct ?_;obtain⟨cV,cW,bO,bP,bQ,b3⟩:=bG.sl.el (i:=0) (by simp);obtain rfl:(⟨Q.id,(onS (pAdd Q v) (putS (pAdd Q v))),(mkC (toldV Q.cart (putS (pAdd Q v))) a5).cart⟩:ToldC)=bO:=Option.some.inj bP;refine jV (x_idxN Tryz.underlying58 ty63 rfl rfl bQ (by simp)) ?_;refine jV (x_ldV (v:= .agg #[.int .i64 (((⟨Q.id,(onS (pAdd Q v) (putS (pAdd Q v))),(mkC (toldV Q.cart (putS (pAdd Q v))) a5).cart⟩:ToldC)).id),.int .i64 (((⟨Q.id,(onS (pAdd Q v) (putS (pAdd Q v))),(mkC (toldV Q.cart (putS (pAdd Q v))) a5).cart⟩:ToldC)).status),.slice ((((⟨Q.id,(onS (pAdd Q v) (putS (pAdd Q v))),(mkC (toldV Q.cart (putS (pAdd Q v))) a5).cart⟩:ToldC)).cart).entries.a) ((((⟨Q.id,(onS (pAdd Q v) (putS (pAdd Q v))),(mkC (toldV Q.cart (putS (pAdd Q v))) a5).cart⟩:ToldC)).cart).entries.len) ((((⟨Q.id,(onS (pAdd Q v) (putS (pAdd Q v))),(mkC (toldV Q.cart (putS (pAdd Q v))) a5).cart⟩:ToldC)).cart).entries.cap),.slice (((((⟨Q.id,(onS (pAdd Q v) (putS (pAdd Q v))),(mkC (toldV Q.cart (putS (pAdd Q v))) a5).cart⟩:ToldC)).cart).ctx).marks.a) (((((⟨Q.id,(onS (pAdd Q v) (putS (pAdd Q v))),(mkC (toldV Q.cart (putS (pAdd Q v))) a5).cart⟩:ToldC)).cart).ctx).marks.len) (((((⟨Q.id,(onS (pAdd Q v) (putS (pAdd Q v))),(mkC (toldV Q.cart (putS (pAdd Q v))) a5).cart⟩:ToldC)).cart).ctx).marks.cap),.slice (((((⟨Q.id,(onS (pAdd Q v) (putS (pAdd Q v))),(mkC (toldV Q.cart (putS (pAdd Q v))) a5).cart⟩:ToldC)).cart).ctx).cloud.a) (((((⟨Q.id,(onS (pAdd Q v) (putS (pAdd Q v))),(mkC (toldV Q.cart (putS (pAdd Q v))) a5).cart⟩:ToldC)).cart).ctx).cloud.len) (((((⟨Q.id,(onS (pAdd Q v) (putS (pAdd Q v))),(mkC (toldV Q.cart (putS (pAdd Q v))) a5).cart⟩:ToldC)).cart).ctx).cloud.cap)]) (y:=(⟨Q.id,(onS (pAdd Q v) (putS (pAdd Q v))),(mkC (toldV Q.cart (putS (pAdd Q v))) a5).cart⟩:ToldC)) ty63 rfl b3 rfl) ?_;refine jR<|jA ?_;intro cX cY aj b4 aD;replace a0:=a0.keep ah a9;have cZ:=ltLe a0.lt aj;replace a2:=a2.keep ah aw;have d0:=ltLe a2.lt aj;have d1:=ltLe b3.lt aj;replace a1:=a1.keepO ah (fun q_ h1 h2=>a7 q_ h2 h1);have bR:=ltNo a1.own_lt aj;have bS:=ltNo aq.own_lt aj;replace K0:=K0.new ah aa;have:=Nat.le_trans K0.size aj;clear aj;refine jR<|jS b4 ?_;intro d2 b4 aE;refine Jct ?_;refine jV (litF (x_moveB rfl) htd.1) ?_;replace a0:=(a0.ext aD).kp aE;refine jG ?_;refine jT<|jO (x_neB Tryz.underlying4 rfl rfl) ?_;refine jV (litF (x_orF rfl rfl rfl) (kept_told aN (by rw[keptN_add,if_neg hc75];try rfl) hnd)) ?_;refine jG ?_;refine Run.condF rfl ?_;refine jG ?_;refine jV (litI (c:=1) (litI (c:=1) (x_add rfl rfl (by decide) (by decide)) (by decide)) rfl) ?_;refine jG ?_;refine Run.inLoop ?_;refine jG ?_;refine Run.condF rfl ?_;refine jG1 ?_;refine jV (x_not (b:=true) rfl) ?_;refine jG ?_;refine jV (x_and (b:=false) (e:=false) rfl rfl rfl) ?_;refine jG ?_;refine Run.condF rfl ?_;refine jG ?_;refine jV (litI (c:=((i+1:Nat):Int)) (x_add rfl rfl (by omega) (by omega)) rfl) ?_;refine jG ?_;have e1:keptN (onPut Q v).got=keptN Q.got:=by rw[show(onPut Q v).got=(pAdd Q v).got from rfl,keptN_add,if_neg hc75];try rfl
       have e2:(onPut Q v).answered=true:=htd.2.2.2;have e3:(onPut Q v).got.map MV.frm=Q.got.map MV.frm++[v.frm]:=List.map_append;refine ih1 (i+1) _ _ ?_ (by omega);refine⟨ae,(onPut Q v),?_⟩;rw[e1,e2,e3];replace a1:=(a1.ext aD).keepO aE (noOne bR);replace a2:=(a2.ext aD).kp aE;replace aq:=(aq.ext aD).keepO aE (noOne bS);replace K0:=(K0.ext aD).n1 aE;refine⟨⟨rfl,rfl,rfl,rfl,rfl,rfl,rfl,rfl,trivial⟩,K0,a0,aq,a1,bL,bM,bN,am,an,?_,?_,?_,?_,?_,?_,?_,?_⟩
       ·omega
       ·exact onPut_ok hP hon
       ·exact hput
       ·exact hmd
       ·exact hrq
       ·exact hts
       ·exact hnd
       ·exact fun ha_=>by cases ha_
    ·refine jG ?_
     refine jV (x_and rfl rfl rfl) ?_;refine jG ?_;refine jV (x_and rfl rfl rfl) ?_;refine jG ?_;refine jW ?_ (hx:=by exact fun hg=>(litV (v':= .bool (decide (v.frm∈(Q.got.map MV.frm)))) (x_lookup (κ:=Int) (a:=v.frm) Tryz.underlying41 Tryz.underlying3 rfl ty4 (gvr hg) (gvr hg) a1) (akT_get _ _)));refine jG ?_;refine jV (litF (x_and rfl rfl rfl) (by rw[←kept_on hmd hdn hput hrq hts];simpa using hon)) ?_;refine jG ?_;refine Run.condF rfl ?_;refine jG ?_;refine jR<|jC (msg_ v s _ (hR0.ext K0) (by assumption)) ?_;rintro _ bT ⟨bU,rfl,b5,d3,bV,aO⟩;clear bV;replace a3:=a3.ext aO;refine jR<|jC (onP_ ak F1 Q v bU _ a3 hput hP b5.r hv hE b5.ent.le_cap) ?_;replace a0:=a0.ext aO;replace a1:=a1.ext aO;replace K0:=K0.ext aO;rintro _ d4 ⟨aF,d5,rfl,(⟨h0_221,b6,rfl⟩|⟨h0_221,b6,(⟨bW,rfl⟩|⟨bW,d6,d7,d8,rfl,d9,da,db,dc,dd,de,df,dg⟩)⟩),aG,aR⟩
     ·replace aG:MovedS bT F1 aF:=aG
      have bX:¬aF a8:=aG.not a9 a0.lt;have bY:∀q_,aF q_→¬one a6 q_:=aG.apart a7 a1.own_lt;have bZ:∀q_,aF q_→w.heap.size≤q_:=aG.ge aa K0.size;clear a3;refine jG4 ?_;refine jG2 ?_;refine jV (litI (c:=0) (x_lenSl Tryz.underlying58 rfl) rfl) ?_;refine jG ?_;refine Run.unloop ?_;refine jG ?_;refine Run.condF rfl ?_;replace a0:=a0.keep aR a9;refine jG ?_;refine jV (litF (x_and rfl rfl rfl) (kept_not hans)) ?_;refine jG ?_;refine Run.condF rfl ?_;refine jG ?_;refine jV (litI (c:=((i+1:Nat):Int)) (x_add rfl rfl (by omega) (by omega)) rfl) ?_;refine jG ?_;refine ih1 (i+1) _ _ ?_ (by omega);replace a1:=a1.keepO aR (fun q_ h1 h2=>a7 q_ h2 h1);replace K0:=K0.new aR aa;refine⟨aF,Q,⟨rfl,rfl,rfl,rfl,rfl,rfl,rfl,rfl,trivial⟩,K0,a0,b6,a1,bX,bY,bZ,am,an,?_,?_,?_,?_,?_,?_,?_,?_⟩
      ·omega
      ·exact hP
      ·exact hput
      ·exact hmd
      ·exact hrq
      ·exact hts
      ·exact hnd
      ·exact hans
     ·exact absurd h0_221 hon
     ·exact absurd h0_221 hon
  ·intro hc36
   refine jG ?_;refine jJ Tryz.func4 ?_;exact⟨_,rfl,rfl,K0⟩
end Go.Proofs.YtocgdeefgohdhaaGreat
