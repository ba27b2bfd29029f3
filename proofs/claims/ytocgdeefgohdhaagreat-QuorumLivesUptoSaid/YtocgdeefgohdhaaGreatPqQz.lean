/-
  Qz, Ra
-/
import Derived.Test.YtocgdeefgohdhaaGreatRows
import Derived.Test.YtocgdeefgohdhaaGreatPqQx
import Derived.Test.YtocgdeefgohdhaaGreatPqQq
import Derived.Test.YtocgdeefgohdhaaGreatPqI
set_option linter.all false
set_option maxRecDepth 100000
set_option maxHeartbeats 4000000
namespace Go.Proofs.YtocgdeefgohdhaaGreat
open Go.Proofs.Tryz
attribute [local irreducible] RD RS AD RL RA RT BH Al
noncomputable def Gh (v:MV):Bool:=decide (CH v=0)
structure EI (l:List Au)(ans:List Bool)(got:List MV):Prop where
 nd:(l.map Au.node).Nodup
 al:ans.length=l.length
 an:∀(i:Nat) (t:Au),l[i]? =some t→ans[i]? =some (got.any fun v=>decide (v.frm=t.node))
structure P2 (P:PM)(Q:RM):Prop where
 kr:Q.kept=0∧Q.refused=0
 cs:Q.cs=P.got.filter Gh
 fine:P.bad=false→P.fine=(Q.order.length:Int)
 hl:Q.there.length=Q.l.length
 cl:Q.carts.length=Q.l.length
 oi:∀o∈Q.order,Q.ans[o.toNat]? =some true
 th:∀(i:Nat) (t:Au),Q.l[i]? =some t→Q.there[i]? =some (P.got.any fun v=>decide (v.frm=t.node)&&Gh v)
 ca:∀(i:Nat) (t:Au) (v:MV),Q.l[i]? =some t→v∈P.got→v.frm=t.node→CH v=0→Q.carts[i]? =some v
 good:P.bad=false→Bv Q.cs=(0,P.cart)
 bad:P.bad=true→¬(Bv Q.cs).1=0
 live:P.done=false→P.bad=false
structure Tn (P:PM)(Q:RM):Prop where
 kept:Q.kept=(keptN P.got:Int)
 refused:Q.refused=(P.got.length:Int)-(keptN P.got:Int)
 full:Q.full=DR P.got
 order:Q.order=[]
 cart:P.cart=Q.cart
 wait:Q.told=false→(keptN P.got:Int)<Q.need∧Q.need≤(Q.l.length:Int)-Q.refused
structure CR (P:PM)(Q:RM):Prop where
 self:P.self=Q.self
 req:P.req=Q.req
 need:P.need=Q.need
 bg:P.began=Q.begun
 id:P.id=Q.id
 key:P.key=Q.key
 seen:P.seen=Q.seen
 l:P.targets=Q.l
 put:P.put=Q.put
 made:P.made=true
 done:P.done=Q.done
 told:P.answered=Q.told
 ok:Q.ok=decide (P.status=200)
 a:EI Q.l Q.ans P.got
 u:P.put=true→Tn P Q
 g:P.put=false→P2 P Q
section
variable {l :List Au}{ans:List Bool}{got:List MV}{v x:MV}{i j:Nat}{t u:Au}{n:Int}{P:PM}{Q:RM}
theorem IN (nd:(l.map Au.node).Nodup)(h1:l[i]? =some t)(h2:l[j]? =some u)(h:t.node=u.node):i=j:=by
 obtain⟨k1,e1⟩:=List.getElem?_eq_some_iff.1 h1
 obtain⟨k2,e2⟩:=List.getElem?_eq_some_iff.1 h2
 exact(List.getElem_inj (xs:=l.map Au.node) (h₀:=by rwa[List.length_map]) (h₁:=by rwa[List.length_map]) nd).1 (by rw[List.getElem_map,List.getElem_map,e1,e2,h])
theorem EI.step (h:EI l ans got)(h1:l[i]? =some t)(h2:t.node=v.frm):EI l (ans.set i true) (got++[v]):=by
 refine⟨h.nd,by rw[List.length_set];exact h.al,fun j u hu=> ?_⟩
 rw[List.any_append,List.any_cons,List.any_nil,Bool.or_false]
 by_cases c:i=j
 ·subst c
  rw[h1]at hu;cases hu
  rw[List.getElem?_set_self (by rw[h.al];exact(List.getElem?_eq_some_iff.1 h1).1),decide_eq_true h2.symm,Bool.or_true]
 ·rw[List.getElem?_set_ne c,h.an j u hu,decide_eq_false (fun e=>c (IN h.nd h1 hu (h2.trans e))),Bool.or_false]
theorem EI.open (h:EI P.targets ans P.got):Dg P n=true↔∃(i:Nat) (t:Au),P.targets[i]? =some t∧t.node=n∧ans[i]? =some false:=by
 unfold Dg
 rw[Bool.and_eq_true,List.any_eq_true,Bool.not_eq_true']
 constructor
 ·rintro⟨⟨t,ht,he⟩,h2⟩
  obtain⟨i,hi,rfl⟩:=List.getElem_of_mem ht
  have h3:=h.an i _ (List.getElem?_eq_getElem hi)
  rw[of_decide_eq_true he,h2]at h3
  exact⟨i,_,List.getElem?_eq_getElem hi,of_decide_eq_true he,h3⟩
 ·rintro⟨i,t,h1,rfl,h3⟩
  rw[h.an i t h1]at h3
  exact⟨⟨t,List.mem_of_getElem? h1,decide_eq_true rfl⟩,Option.some.inj h3⟩
theorem EI.all (h:EI P.targets ans P.got)(hP:IV P):(!(ans.any fun b=> !b))=decide (P.got.length=P.targets.length):=by
 rw[Bool.eq_iff_iff,Bool.not_eq_true',List.any_eq_false,decide_eq_true_eq]
 constructor
 ·intro h1
  have k1:=nodup_le (l:=P.targets.map Au.node) (m:=P.got.map MV.frm) h.nd (fun y hy=>by
   obtain⟨t,ht,rfl⟩:=List.mem_map.1 hy
   obtain⟨i,hi,rfl⟩:=List.getElem_of_mem ht
   have h3:=h.an i _ (List.getElem?_eq_getElem hi)
   have h4:=h1 _ (List.mem_of_getElem? h3)
   rw[Bool.not_eq_true',Bool.not_eq_false,List.any_eq_true]at h4
   obtain⟨x,hx,e⟩:=h4
   exact List.mem_map.2 ⟨x,hx,of_decide_eq_true e⟩)
  have k2:=nodup_le (l:=P.got.map MV.frm) (m:=P.targets.map Au.node) hP.1 (fun y hy=>by
   obtain⟨x,hx,rfl⟩:=List.mem_map.1 hy
   obtain⟨t,ht,e⟩:=hP.2 x hx
   exact List.mem_map.2 ⟨t,ht,e⟩)
  simp only[List.length_map]at k1 k2
  omega
 ·intro h1 b hb hn
  obtain⟨i,hi,rfl⟩:=List.getElem_of_mem hb
  have hb2:ans[i]? =some false:=by rw[List.getElem?_eq_getElem hi];simpa using hn
  have hi2:i<P.targets.length:=by rw[←h.al];exact hi
  have:=hP.lt (h.open.2 ⟨i,_,List.getElem?_eq_getElem hi2,rfl,hb2⟩)
  omega
theorem IP (h:¬v.n=0):DR (got++[v])=(DR got||decide (v.n=7)):=by
 unfold DR;rw[List.any_append];simp[h]
theorem Lq (h:v.n=0):DR (got++[v])=DR got:=by
 unfold DR;rw[List.any_append];simp[h]
theorem JA (h:P.answered=true)(s:Int):Ht P s=0:=by rw[Ht,if_pos h]
theorem JB (h:P.answered=false)(s:Int):Ht P s=s:=by rw[Ht,if_neg (by rw[h];decide)]
theorem Lr (h : CR P Q) (hp : P.put = true) : Ht (Am P v) (Bg (Am P v)) = B8 Q v := by
  have hu := h.u hp
  cases ht : Q.told with
  | true =>
    rw [JA (P := Am P v) (h.told.trans ht)]
    unfold B8
    rw [ht]; simp
  | false =>
    obtain ⟨w1, w2⟩ := hu.wait ht
    rw [JB (P := Am P v) (h.told.trans ht)]
    have hk : ((keptN (P.got ++ [v]) : Nat) : Int) = keptN P.got + (if v.n = 0 then 1 else 0) := by rw [Ha]; split <;> rfl
    have hn : (Am P v).need = Q.need := h.need
    have hl : ((Am P v).targets.length : Int) = Q.l.length := by rw [show (Am P v).targets = Q.l from h.l]
    have hg : ((Am P v).got.length : Int) = P.got.length + 1 := by show ((P.got ++ [v]).length : Int) = _; rw [List.length_append]; rfl
    have h1 := hu.kept
    have h2 := hu.refused
    by_cases c : v.n = 0
    · rw [if_pos c] at hk
      by_cases c2 : Q.kept + 1 = Q.need
      · rw [(IG (Q := Q) (i := 0) c ⟨c2, ht⟩).1]
        exact Lc (Q := Am P v) (by show (Am P v).need ≤ ((keptN (P.got ++ [v]) : Nat) : Int); omega)
      · rw [(PW (Q := Q) (i := 0) c (fun e => c2 e.1)).1]
        exact L2 (Q := Am P v) (by show ¬ (Am P v).need ≤ ((keptN (P.got ++ [v]) : Nat) : Int); omega) (by show (Am P v).need ≤ _ - (_ - ((keptN (P.got ++ [v]) : Nat) : Int)); omega)
    · rw [if_neg c] at hk
      by_cases c2 : (Q.l.length : Int) - (Q.refused + 1) < Q.need
      · have e1 : ¬ (Am P v).need ≤ ((keptN (Am P v).got : Nat) : Int) := by show ¬ (Am P v).need ≤ ((keptN (P.got ++ [v]) : Nat) : Int); omega
        have e2 : ¬ (Am P v).need ≤ ((Am P v).targets.length : Int) - (((Am P v).got.length : Int) - ((keptN (Am P v).got : Nat) : Int)) := by show ¬ (Am P v).need ≤ _ - (_ - ((keptN (P.got ++ [v]) : Nat) : Int)); omega
        have e3 : DR (Am P v).got = (Q.full || decide (v.n = 7)) := by rw [hu.full]; exact IP c
        cases hb : (Q.full || decide (v.n = 7)) with
        | true => rw [(Hh (Q := Q) (i := 0) (S := 507) c ⟨c2, ht⟩ hb rfl).1]; exact Ld e1 e2 (e3.trans hb)
        | false => rw [(Hh (Q := Q) (i := 0) (S := 500) c ⟨c2, ht⟩ hb rfl).1]; exact Le e1 e2 (e3.trans hb)
      · rw [(PX (Q := Q) (i := 0) c (fun e => c2 e.1)).1]
        exact L2 (Q := Am P v) (by show ¬ (Am P v).need ≤ ((keptN (P.got ++ [v]) : Nat) : Int); omega) (by show (Am P v).need ≤ _ - (_ - ((keptN (P.got ++ [v]) : Nat) : Int)); omega)
theorem P3 (s:Int):(P.answered||decide (s≠0))=(P.answered||decide (Ht P s≠0)):=by
 unfold Ht;cases P.answered<;>simp
theorem CR.put_step (h:CR P Q)(hp:P.put=true)(hP:IV P)(hd:Q.done=false)(ho:GT Q v.frm i):CR (Ix P v) (IX (Cm Q i v))∧IY (Cm Q i v)=[]:=by
 obtain⟨t,h1,h2,h3⟩:=ho
 have hS:=Lr (v:=v) h hp
 have hu:=h.u hp
 have hA:EI Q.l (Q.ans.set i true) (P.got++[v]):=h.a.step h1 h2
 have hop:Dg P v.frm=true:=(EI.open (P:=P) (by rw[h.l];exact h.a)).2 ⟨i,t,by rw[h.l];exact h1,h2,h3⟩
 have hall:Hy (Cm Q i v)=decide ((Am P v).got.length=(Am P v).targets.length):=EI.all (P:=Am P v) (ans:=Q.ans.set i true) (by show EI P.targets _ _;rw[h.l];exact hA) (hP.add hop)
 have hQd:(Cm Q i v).done=false:=hd
 have hnew:∀d:Bool,(P.done||decide ((Am P v).got.length=(Am P v).targets.length))=d→CR (Ix P v) (Ly (Cm Q i v) (Cm Q i v).ans (Cm Q i v).there (Cm Q i v).carts (Cm Q i v).order (Cm Q i v).kept (Cm Q i v).refused (Cm Q i v).full (Cm Q i v).told (Cm Q i v).ok d):=by
  intro d hd2
  have ht:(Ix P v).answered=(Cm Q i v).told:=by
   show(P.answered||decide (Bg (Am P v)≠0))=(Q.told||decide (B8 Q v≠0))
   have e:=P3 (P:=Am P v) (Bg (Am P v))
   rw[hS]at e
   rw[←h.told];exact e
  refine⟨h.self,h.req,h.need,h.bg,h.id,h.key,h.seen,h.l,h.put,h.made,hd2,ht,?_,hA,fun _=> ?_,fun e=>by have e2:P.put=false:=e;rw[hp]at e2;cases e2⟩
  ·show(if B8 Q v=0 then Q.ok else decide (B8 Q v=200))=decide ((if Ht (Am P v) (Bg (Am P v))=0 then P.status else Bg (Am P v))=200)
   rw[hS]
   by_cases c:B8 Q v=0
   ·rw[if_pos c,if_pos c];exact h.ok
   ·rw[if_neg c,if_neg c]
    have:Bg (Am P v)=B8 Q v:=by
     cases ha:P.answered with
     |true=>rw[JA (P:=Am P v) ha]at hS;exact absurd hS.symm c
     |false=>rw[JB (P:=Am P v) ha]at hS;exact hS
    rw[this]
  ·have hk:((keptN (P.got++[v]):Nat):Int)=keptN P.got+(if v.n=0 then 1 else 0):=by rw[Ha];split<;>rfl
   have hl:((P.got++[v]).length:Int)=P.got.length+1:=by rw[List.length_append];rfl
   have k1:=hu.kept
   have k2:=hu.refused
   refine⟨?_,?_,?_,hu.order,hu.cart,?_⟩
   ·show(if v.n=0 then Q.kept+1 else Q.kept)=((keptN (P.got++[v]):Nat):Int)
    split<;>simp_all
   ·show(if v.n=0 then Q.refused else Q.refused+1)=((P.got++[v]).length:Int)-((keptN (P.got++[v]):Nat):Int)
    split<;>simp_all<;>omega
   ·show(if v.n=0 then Q.full else(Q.full||decide (v.n=7)))=DR (P.got++[v])
    split
    ·rename_i c;rw[Lq c];exact hu.full
    ·rename_i c;rw[IP c,hu.full]
   ·intro e
    have e:(Q.told||decide (B8 Q v≠0))=false:=e
    rw[Bool.or_eq_false_iff]at e
    have e0:B8 Q v=0:=by simpa using e.2
    obtain⟨w1,w2⟩:=hu.wait e.1
    show((keptN (P.got++[v]):Nat):Int)<Q.need∧Q.need≤(Q.l.length:Int)-(if v.n=0 then Q.refused else Q.refused+1)
    by_cases c:v.n=0
    ·by_cases c2:Q.kept+1=Q.need
     ·rw[(IG (i:=0) c ⟨c2,e.1⟩).1]at e0;cases e0
     ·rw[if_pos c]at hk⊢;omega
    ·by_cases c2:(Q.l.length:Int)-(Q.refused+1)<Q.need
     ·cases hb:(Q.full||decide (v.n=7))with
      |true=>rw[(Hh (i:=0) (S:=507) c ⟨c2,e.1⟩ hb rfl).1]at e0;cases e0
      |false=>rw[(Hh (i:=0) (S:=500) c ⟨c2,e.1⟩ hb rfl).1]at e0;cases e0
     ·rw[if_neg c]at hk⊢;omega
 have hPd:P.done=false:=h.done.trans hd
 by_cases c:Hy (Cm Q i v)=true
 ·obtain⟨e1,e2⟩:=HW hQd c
  rw[e1,e2]
  refine⟨hnew true (by rw[hPd,←hall,c];rfl),FC (.inl ?_)⟩
  show Q.put=true
  rw[←h.put];exact hp
 ·obtain⟨e1,e2⟩:=GV hQd c
  rw[e1,e2]
  have:=hnew false (by rw[hPd,←hall];simpa using c)
  rw[←hQd]at this
  exact⟨this,rfl⟩
theorem Mk {f : MV → Bool} (hn : (got.map MV.frm).Nodup) (hv : v ∈ got) (hf : ∀ x, f x = true → x.frm = v.frm) : got.filter f = if f v = true then [v] else [] := by
  induction got with
  | nil => exact absurd hv Zs
  | cons y l ih =>
    rw [List.map_cons, List.nodup_cons] at hn
    rcases List.mem_cons.1 hv with rfl | hv
    · have hl : l.filter f = [] := List.filter_eq_nil_iff.2 fun z hz hz2 => hn.1 (List.mem_map.2 ⟨z, hz, hf z hz2⟩)
      rw [List.filter_cons, hl]
    · have hy : ¬ f y = true := fun hy => hn.1 (List.mem_map.2 ⟨v, hv, (hf y hy).symm⟩)
      rw [List.filter_cons, if_neg hy]
      exact ih hn.2 hv
theorem P2.mend (h : P2 P Q) (hl : P.targets = Q.l) (hP : IV P) (hp : P.put = false) (hp2 : Q.put = false) (hs : P.self = Q.self) (hk : P.key = Q.key) (ho : Q.ok = decide (P.status = 200)) : D2 P = F3 Q := by
  by_cases c : P.status ≠ 200 ∨ P.bad = true
  · rw [GP c, FC]
    rcases c with c | c
    · exact .inr (.inl (by rw [ho, decide_eq_false c]))
    · exact .inr (.inr (h.bad c))
  · have c1 : P.status = 200 := Decidable.not_not.1 fun e => c (.inl e)
    have c2 : P.bad = false := by simpa using fun e => c (.inr e)
    have hg := h.good c2
    have e1 : (Bv Q.cs).1 = 0 := by rw [hg]
    have e2 : (Bv Q.cs).2 = P.cart := by rw [hg]
    rw [Hf hp (not_not_intro c1) (by rw [c2]; decide), Jz (by rintro (k | k | k); rw [hp2] at k; cases k; rw [ho, decide_eq_true c1] at k; cases k; exact k e1), e2]
    have key : ∀ i, i ≤ Q.l.length → En P i = (D3 Q P.cart i).map fun t => Ap 1 Q.self t.node 0 Q.key t.owner P.cart := by
      intro i
      induction i with
      | zero => intro _; rw [lastM_zero, mendT_zero]; rfl
      | succ i ih =>
        intro hi
        have ht : Q.l[i]? = some Q.l[i] := List.getElem?_eq_getElem Zo
        rw [Ge (by rw [hl]; exact ht), Fi ht, ih Zo, List.map_append]
        congr 1
        unfold Fp
        by_cases c3 : ∃ v ∈ P.got, v.frm = Q.l[i].node ∧ CH v = 0
        · obtain ⟨v, hv, hf, hc⟩ := c3
          have hth := h.th i _ ht
          have hany : (P.got.any fun v => decide (v.frm = Q.l[i].node) && Gh v) = true := List.any_eq_true.2 ⟨v, hv, by unfold Gh; rw [decide_eq_true hf, decide_eq_true hc]; rfl⟩
          rw [hany] at hth
          have hB : IF Q P.cart i = !D1 v P.cart := by
            unfold IF; rw [List.getD, hth, List.getD, h.ca i _ v ht hv hf hc]; rfl
          have hL : Dc P.cart Q.l[i] v = !D1 v P.cart := by unfold Dc; rw [decide_eq_true hf, decide_eq_true hc]; rfl
          rw [Mk hP.1 hv (f := Dc P.cart Q.l[i]) (fun x hx => by
            unfold Dc at hx
            simp only [Bool.and_eq_true, decide_eq_true_eq] at hx
            exact hx.1.1.trans hf.symm), hB, hL]
          split
          · rw [List.map_cons, List.map_nil, List.map_cons, List.map_nil, hs, hk]
          · rfl
        · have hany : (P.got.any fun v => decide (v.frm = Q.l[i].node) && Gh v) = false := by
            rw [List.any_eq_false]
            intro v hv e
            rw [Bool.and_eq_true] at e
            exact c3 ⟨v, hv, of_decide_eq_true e.1, of_decide_eq_true e.2⟩
          have hth := h.th i _ ht
          rw [hany] at hth
          have hB : IF Q P.cart i = false := by unfold IF; rw [List.getD, hth]; rfl
          have hF : P.got.filter (Dc P.cart Q.l[i]) = [] := List.filter_eq_nil_iff.2 fun x hx e => by
            unfold Dc at e
            simp only [Bool.and_eq_true, decide_eq_true_eq] at e
            exact c3 ⟨x, hx, e.1.1, e.1.2⟩
          rw [hF, hB]; rfl
    rw [show P.targets.length = Q.l.length by rw [hl]]
    exact key _ (Nat.le_refl _)
theorem Nl (h:P2 P Q)(h3:Q.ans[i]? =some false)(hi:i<Q.l.length):(Bn Q i v).cs=(P.got++[v]).filter Gh:=by
 rw[List.filter_append]
 by_cases c:CH v=0
 ·have e:(Bn Q i v).cs=Q.cs++[v]:=by
   rw[Fj c]
   show(Q.order++[((i:Nat):Int)]).map (fun j=>(Q.carts.set i v).getD j.toNat nilV)=_
   rw[List.map_append]
   congr 1
   ·refine List.map_congr_left fun o ho=> ?_
    have hne:i≠o.toNat:=fun e=>by have h4:=h.oi o ho;rw[←e,h3]at h4;cases h4
    rw[List.getD,List.getD,List.getElem?_set_ne hne]
   ·rw[List.map_cons,List.map_nil,Int.toNat_natCast,List.getD,List.getElem?_set_self (by rw[h.cl];exact hi)];rfl
  rw[e,h.cs,List.filter_cons,if_pos (show Gh v=true from decide_eq_true c)];rfl
 ·have e:(Bn Q i v).cs=Q.cs:=by rw[FD c];rfl
  rw[e,h.cs,List.filter_cons,if_neg (show¬Gh v=true from fun e2=>c (of_decide_eq_true e2))];simp
theorem IQ (h:P2 P Q)(h3:Q.ans[i]? =some false)(hi:i<Q.l.length)(hb:P.bad=false):
  (Cz (Am P v) v false=false→Bv (Bn Q i v).cs=(0,Cn (Am P v) v))∧(Cz (Am P v) v false=true→¬(Bv (Bn Q i v).cs).1=0)∧(Cz (Am P v) v false=false→E0 (Am P v) v=((Bn Q i v).order.length:Int)):=by
 have hg:=h.good hb
 have e:(Bn Q i v).cs=if CH v=0 then Q.cs++[v]else Q.cs:=by
  rw[Nl h h3 hi,List.filter_append,h.cs,List.filter_cons]
  by_cases c:CH v=0
  ·rw[if_pos (show Gh v=true from decide_eq_true c),if_pos c];rfl
  ·rw[if_neg (show¬Gh v=true from fun e2=>c (of_decide_eq_true e2)),if_neg c];simp
 by_cases c:CH v=0
 ·rw[e,if_pos c,tog_snoc,hg]
  by_cases c2:Cw P.cart v=0
  ·obtain⟨k1,k2,k3,-⟩:=CV (Q:=Am P v) (x:=v) c c2
   rw[k1,k2,k3,Kh rfl c2]
   refine⟨fun _=>rfl,(fun e=>by cases e),fun _=> ?_⟩
   rw[Fj c];show P.fine+1=((Q.order++[((i:Nat):Int)]).length:Int);rw[h.fine hb,List.length_append];rfl
  ·obtain⟨k1,k2,k3,-⟩:=He (Q:=Am P v) (x:=v) c c2
   rw[k2,k3,IE rfl c2]
   exact⟨(fun e=>by cases e),fun _=>c2,(fun e=>by cases e)⟩
 ·obtain⟨k1,k2,k3,-⟩:=F0 (Q:=Am P v) (x:=v) c
  rw[k1,k2,k3,e,if_neg c]
  refine⟨fun _=>hg,(fun e=>by cases e),fun _=> ?_⟩
  rw[FD c];exact h.fine hb
theorem Ls (h : CR P Q) (hp : P.put = false) (hP : IV P) (hd : Q.done = false) (ho : GT Q v.frm i) : Ht (Am P v) (CB (Am P v) v) = Dk (Bn Q i v) := by
  obtain ⟨t, h1, h2, h3⟩ := ho
  have hg := h.g hp
  have hb := hg.live (h.done.trans hd)
  have hi := (List.getElem?_eq_some_iff.1 h1).1
  obtain ⟨k1, k2, k3⟩ := IQ (v := v) hg h3 hi hb
  cases ht : Q.told with
  | true => rw [JA (P := Am P v) (h.told.trans ht), IH (Q := Bn Q i v) ht]
  | false =>
    rw [JB (P := Am P v) (h.told.trans ht)]
    cases hx : Cz (Am P v) v false with
    | true =>
      rw [GS (Q := Bn Q i v) ht (k2 hx)]
      by_cases c : CH v = 0
      · by_cases c2 : Cw P.cart v = 0
        · rw [(CV (Q := Am P v) (x := v) c c2).2.2.1] at hx; cases hx
        · exact (He (Q := Am P v) (x := v) c c2).2.2.2
      · rw [(F0 (Q := Am P v) (x := v) c).2.2.1] at hx; cases hx
    | false =>
      have e0 := k1 hx
      have e1 : (Bv (Bn Q i v).cs).1 = 0 := by rw [e0]
      have e2 : (Bv (Bn Q i v).cs).2 = Cn (Am P v) v := by rw [e0]
      have hS : CB (Am P v) v = Hd P.need (E0 (Am P v) v) P.seen (Cn (Am P v) v) (P.got ++ [v]).length P.targets.length := by
        by_cases c : CH v = 0
        · by_cases c2 : Cw P.cart v = 0
          · obtain ⟨j1, j2, -, j4⟩ := CV (Q := Am P v) (x := v) c c2; rw [j4, j1, j2]
          · rw [(He (Q := Am P v) (x := v) c c2).2.2.1] at hx; cases hx
        · obtain ⟨j1, j2, -, j4⟩ := F0 (Q := Am P v) (x := v) c; rw [j4, j1, j2]
      have hall : (!((Bn Q i v).ans.any fun b => !b)) = decide ((P.got ++ [v]).length = P.targets.length) := EI.all (P := Am P v) (by show EI P.targets _ _; rw [h.l]; exact h.a.step h1 h2) (hP.add ((EI.open (P := P) (by rw [h.l]; exact h.a)).2 ⟨i, t, by rw [h.l]; exact h1, h2, h3⟩))
      have q1 : (Bn Q i v).need = P.need := h.need.symm
      have q2 : (Bn Q i v).seen = P.seen := h.seen.symm
      rw [hS, k3 hx]
      by_cases c : (Bn Q i v).need ≤ ((Bn Q i v).order.length : Int) ∧ Fq (Bn Q i v).seen.mrk (Bn Q i v).seen.cl (Bv (Bn Q i v).cs).2.mrk (Bv (Bn Q i v).cs).2.cl
      · have c' := c
        rw [q1, q2, e2] at c'
        by_cases c2 : ((Bv (Bn Q i v).cs).2.mrk.length : Int) + ((Bv (Bn Q i v).cs).2.cl.length : Int) = 0
        · rw [II (Q := Bn Q i v) ht e1 c c2]
          rw [e2] at c2
          exact GN c'.1 c'.2 ⟨List.eq_nil_of_length_eq_zero Zo, List.eq_nil_of_length_eq_zero Zo⟩
        · rw [IJ (Q := Bn Q i v) ht e1 c c2]
          rw [e2] at c2
          exact GO c'.1 c'.2 (fun e => c2 (by rw [e.1, e.2]; rfl))
      · have c' := c
        rw [q1, q2, e2] at c'
        by_cases c2 : (!((Bn Q i v).ans.any fun b => !b)) = true
        · rw [IK (Q := Bn Q i v) ht e1 c c2]
          rw [hall] at c2
          exact Em c' (of_decide_eq_true c2)
        · rw [Mj (Q := Bn Q i v) ht e1 c c2]
          rw [hall] at c2
          exact Gd c' (by simpa using c2)
theorem CR.get_step (h : CR P Q) (hp : P.put = false) (hP : IV P) (hd : Q.done = false) (ho : GT Q v.frm i) : CR (CT P v) (IX (CC (Bn Q i v))) ∧ IY (CC (Bn Q i v)) = (if (CT P v).done = true then D2 (CT P v) else []) := by
  have hS := Ls (v := v) h hp hP hd ho
  obtain ⟨t, h1, h2, h3⟩ := ho
  have hg := h.g hp
  have hPd : P.done = false := h.done.trans hd
  have hb := hg.live hPd
  have hi := (List.getElem?_eq_some_iff.1 h1).1
  obtain ⟨k1, k2, k3⟩ := IQ (v := v) hg h3 hi hb
  have hA : EI Q.l (Q.ans.set i true) (P.got ++ [v]) := h.a.step h1 h2
  have hop : Dg P v.frm = true := (EI.open (P := P) (by rw [h.l]; exact h.a)).2 ⟨i, t, by rw [h.l]; exact h1, h2, h3⟩
  have hP' : IV (Am P v) := hP.add hop
  have hall : Hy (CC (Bn Q i v)) = decide ((P.got ++ [v]).length = P.targets.length) := EI.all (P := Am P v) (ans := Q.ans.set i true) (by show EI P.targets _ _; rw [h.l]; exact hA) hP'
  have hfd : (CC (Bn Q i v)).done = Cz (Am P v) v false := by
    show (Q.done || decide ((Bv (Bn Q i v).cs).1 ≠ 0)) = _
    rw [hd, Bool.false_or]
    cases hx : Cz (Am P v) v false with
    | true => exact decide_eq_true (k2 hx)
    | false => rw [k1 hx]; rfl
  have hPd2 : (CT P v).done = (Cz (Am P v) v false || decide ((P.got ++ [v]).length = P.targets.length)) := by
    show (Cz (Am P v) v P.done || decide ((P.got ++ [v]).length = P.targets.length)) = _
    rw [hPd]
  have hnew : ∀ d : Bool, (CT P v).done = d → CR (CT P v) (Ly (CC (Bn Q i v)) (CC (Bn Q i v)).ans (CC (Bn Q i v)).there (CC (Bn Q i v)).carts (CC (Bn Q i v)).order (CC (Bn Q i v)).kept (CC (Bn Q i v)).refused (CC (Bn Q i v)).full (CC (Bn Q i v)).told (CC (Bn Q i v)).ok d) := by
    intro d hd2
    have hbad : (CT P v).bad = Cz (Am P v) v false := by show Cz (Am P v) v P.bad = _; rw [hb]
    refine ⟨h.self, h.req, h.need, h.bg, h.id, h.key, h.seen, h.l, h.put, h.made, hd2, ?_, ?_, hA, (fun e => by have e2 : P.put = true := e; rw [hp] at e2; cases e2), fun _ => ?_⟩
    · show (P.answered || decide (CB (Am P v) v ≠ 0)) = (Q.told || decide (Dk (Bn Q i v) ≠ 0))
      have e := P3 (P := Am P v) (CB (Am P v) v)
      rw [hS] at e
      rw [← h.told]; exact e
    · show (if Dk (Bn Q i v) = 0 then Q.ok else decide (Dk (Bn Q i v) = 200)) = decide ((if Ht (Am P v) (CB (Am P v) v) = 0 then P.status else CB (Am P v) v) = 200)
      rw [hS]
      by_cases c : Dk (Bn Q i v) = 0
      · rw [if_pos c, if_pos c]; exact h.ok
      · rw [if_neg c, if_neg c]
        have : CB (Am P v) v = Dk (Bn Q i v) := by
          cases ha : P.answered with
          | true => rw [JA (P := Am P v) ha] at hS; exact absurd hS.symm c
          | false => rw [JB (P := Am P v) ha] at hS; exact hS
        rw [this]
    · have hth : ∀ (j : Nat) (u : Au), Q.l[j]? = some u → (Bn Q i v).there[j]? = some ((P.got ++ [v]).any fun x => decide (x.frm = u.node) && Gh x) := by
        intro j u hu
        rw [List.any_append, List.any_cons, List.any_nil, Bool.or_false]
        by_cases c : CH v = 0
        · rw [Fj c, show Gh v = true from decide_eq_true c, Bool.and_true]
          show (Q.there.set i true)[j]? = _
          by_cases c2 : i = j
          · subst c2
            rw [h1] at hu; cases hu
            rw [List.getElem?_set_self (by rw [hg.hl]; exact hi), decide_eq_true h2.symm, Bool.or_true]
          · rw [List.getElem?_set_ne c2, hg.th j u hu, decide_eq_false (fun e => c2 (IN h.a.nd h1 hu (h2.trans e))), Bool.or_false]
        · rw [FD c, show Gh v = false from decide_eq_false c, Bool.and_false, Bool.or_false]
          exact hg.th j u hu
      have hca : ∀ (j : Nat) (u : Au) (x : MV), Q.l[j]? = some u → x ∈ P.got ++ [v] → x.frm = u.node → CH x = 0 → (Bn Q i v).carts[j]? = some x := by
        intro j u x hu hx hf hc
        rcases List.mem_append.1 hx with hx | hx
        · have hne : i ≠ j := fun e => by
            subst e
            rw [h1] at hu; cases hu
            have h5 := h.a.an i t h1
            rw [h3] at h5
            have h6 := (List.any_eq_false.1 (Option.some.inj h5).symm) x hx
            exact h6 (decide_eq_true hf)
          by_cases c : CH v = 0
          · rw [Fj c]; show (Q.carts.set i v)[j]? = _; rw [List.getElem?_set_ne hne]; exact hg.ca j u x hu hx hf hc
          · rw [FD c]; exact hg.ca j u x hu hx hf hc
        · rw [List.mem_singleton] at hx; subst hx
          have hij : i = j := IN h.a.nd h1 hu (h2.trans hf)
          subst hij
          rw [Fj hc]; show (Q.carts.set i x)[i]? = _
          rw [List.getElem?_set_self (by rw [hg.cl]; exact hi)]
      have hoi : ∀ o ∈ (Bn Q i v).order, (Q.ans.set i true)[o.toNat]? = some true := by
        have hlen : i < Q.ans.length := by rw [h.a.al]; exact hi
        have hset : ∀ o : Int, Q.ans[o.toNat]? = some true → (Q.ans.set i true)[o.toNat]? = some true := fun o ho => by
          by_cases c : i = o.toNat
          · rw [← c, List.getElem?_set_self hlen]
          · rw [List.getElem?_set_ne c]; exact ho
        intro o ho
        by_cases c : CH v = 0
        · rw [Fj c] at ho
          rcases List.mem_append.1 ho with ho | ho
          · exact hset o (hg.oi o ho)
          · rw [List.mem_singleton] at ho; rw [ho, Int.toNat_natCast, List.getElem?_set_self hlen]
        · rw [FD c] at ho; exact hset o (hg.oi o ho)
      have hhl : (Bn Q i v).there.length = Q.l.length := by
        by_cases c : CH v = 0
        · rw [Fj c]; show (Q.there.set i true).length = _; rw [List.length_set]; exact hg.hl
        · rw [FD c]; exact hg.hl
      have hcl : (Bn Q i v).carts.length = Q.l.length := by
        by_cases c : CH v = 0
        · rw [Fj c]; show (Q.carts.set i v).length = _; rw [List.length_set]; exact hg.cl
        · rw [FD c]; exact hg.cl
      exact ⟨hg.kr, Nl hg h3 hi, fun e => k3 (hbad ▸ e), hhl, hcl, hoi, hth, hca, fun e => k1 (hbad ▸ e), fun e => k2 (hbad ▸ e), fun e => by rw [hPd2] at e; rw [hbad]; exact (Bool.or_eq_false_iff.1 e).1⟩
  cases hx : Cz (Am P v) v false with
  | true =>
    obtain ⟨e1, e2⟩ := IM (Q1 := CC (Bn Q i v)) (hfd.trans hx)
    have hdn : (CT P v).done = true := by rw [hPd2, hx]; rfl
    rw [e1, e2, if_pos hdn, GP (.inr (by show Cz (Am P v) v P.bad = true; rw [hb]; exact hx))]
    have := hnew true hdn
    rw [← hx, ← hfd] at this
    exact ⟨this, rfl⟩
  | false =>
    by_cases c : Hy (CC (Bn Q i v)) = true
    · obtain ⟨e1, e2⟩ := HW (Q1 := CC (Bn Q i v)) (hfd.trans hx) c
      have hdn : (CT P v).done = true := by rw [hPd2, ← hall, c, Bool.or_true]
      have hL := hnew true hdn
      rw [e1, e2, if_pos hdn]
      exact ⟨hL, ((hL.g hp).mend h.l hP' hp (h.put.symm.trans hp) h.self h.key hL.ok).symm⟩
    · obtain ⟨e1, e2⟩ := GV (Q1 := CC (Bn Q i v)) (hfd.trans hx) c
      have hdn : (CT P v).done = false := by rw [hPd2, hx, ← hall]; simpa using c
      rw [e1, e2, if_neg (by rw [hdn]; decide)]
      have := hnew false hdn
      rw [← hx, ← hfd] at this
      exact ⟨this, rfl⟩
theorem Lt (h:CR P Q):Dy P v=true↔IL Q v∧∃i,GT Q v.frm i:=by
 have ho:=EI.open (P:=P) (n:=v.frm) (by rw[h.l];exact h.a)
 unfold Dy
 rw[Bool.and_eq_true,ho,h.made,h.done,h.put,h.req,h.l]
 simp only[Bool.and_eq_true,Bool.true_and,Bool.not_eq_true',decide_eq_true_eq]
 constructor
 ·rintro⟨⟨⟨h1,h2⟩,h3⟩,h4⟩;exact⟨⟨h1,h3,h2⟩,h4⟩
 ·rintro⟨⟨h1,h3,h2⟩,h4⟩;exact⟨⟨⟨h1,h2⟩,h3⟩,h4⟩
theorem CR.on_none (h:CR P Q)(hn:¬IL Q v∨Rt Q v.frm):¬Dy P v=true:=fun e=>by
 obtain⟨h1,i,t,h2,h3,h4⟩:=(Lt h).1 e
 rcases hn with hn|hn
 ·exact hn h1
 ·have:=hn i t h2 h3;rw[h4]at this;cases this
theorem JC {S S':Int}{C C':MV}(h:S=S')(hc:S=200→C=C'):AK C S=AK C' S':=by
 subst h;unfold AK;split
 ·exact hc ‹_›
 ·rfl
theorem CR.on (h : CR P Q) (hM : Fs P) (hc : IL Q v) (ho : GT Q v.frm i) : CR (DA P v) (IX (GU Q i v)) ∧ Hg P v = IY (GU Q i v) ∧ DB P v = N2 Q i v ∧ (DB P v ≠ 0 → DT P v = N3 Q i v) := by
  have hok := (Lt h).2 ⟨hc, i, ho⟩
  cases hp : P.put with
  | true =>
    obtain ⟨e1, e2, e3, e4⟩ := Kb hok hp
    obtain ⟨r1, r2, r3⟩ := HU (Q := Q) (i := i) (v := v) (h.put.symm.trans hp)
    obtain ⟨k1, k2⟩ := h.put_step (v := v) hp hM.ok hc.1 ho
    have hS := Lr (v := v) h hp
    rw [e1, e2, e3, r1, r2, k2]
    refine ⟨k1, rfl, hS, fun hne => ?_⟩
    rw [e4, r3]
    refine JC ?_ (fun _ => (h.u hp).cart)
    rw [← hS]
    cases ha : P.answered with
    | true => exact absurd (JA (P := Am P v) ha _) hne
    | false => exact (JB (P := Am P v) ha _).symm
  | false =>
    obtain ⟨e1, e2, e3, e4⟩ := EA hok hp
    obtain ⟨r1, r2, r3⟩ := HV (Q := Q) (i := i) (v := v) (h.put.symm.trans hp)
    obtain ⟨k1, k2⟩ := h.get_step (v := v) hp hM.ok hc.1 ho
    have hS := Ls (v := v) h hp hM.ok hc.1 ho
    rw [e1, e2, e3, r1, r2, k2]
    refine ⟨k1, rfl, hS, fun hne => ?_⟩
    rw [e4, r3]
    have ha : P.answered = false := by
      cases ha : P.answered with
      | true => exact absurd (JA (P := Am P v) ha _) hne
      | false => rfl
    have hS2 : CB (Am P v) v = Dk (Bn Q i v) := (JB (P := Am P v) ha _).symm.trans hS
    refine JC hS2 (fun h200 => ?_)
    obtain ⟨t, h1, h2, h3⟩ := ho
    have hg := h.g hp
    obtain ⟨q1, q2, -⟩ := IQ (v := v) hg h3 (List.getElem?_eq_some_iff.1 h1).1 (hg.live (h.done.trans hc.1))
    cases hx : Cz (Am P v) v false with
    | true => rw [hS2, GS (Q := Bn Q i v) (h.told.symm.trans ha) (q2 hx)] at h200; cases h200
    | false => rw [q1 hx]
theorem CR.lt (h : CR P Q) (hP : IV P) (ho : GT Q n i) : Q.kept + Q.refused < (Q.l.length : Int) ∧ Q.order.length < Q.l.length := by
  obtain ⟨t, h1, h2, h3⟩ := ho
  have hlt := hP.lt ((EI.open (P := P) (n := n) (by rw [h.l]; exact h.a)).2 ⟨i, t, by rw [h.l]; exact h1, h2, h3⟩)
  rw [h.l] at hlt
  cases hp : P.put with
  | true =>
    have hu := h.u hp
    have := hu.kept
    have := hu.refused
    rw [hu.order]
    exact ⟨by omega, by show 0 < _; omega⟩
  | false =>
    have hg := h.g hp
    have e : Q.order.length = (P.got.filter Gh).length := by rw [← hg.cs]; show _ = (Q.order.map _).length; rw [List.length_map]
    have := List.length_filter_le Gh P.got
    have := hg.kr
    omega
theorem CR.tick (h : CR P Q) (hM : Fs P) {now : Int} : CR (Dt P now) (Ru Q now) ∧ DC P now = Rv Q now ∧ BM P now = Rw Q now := by
  have hiff : DY P now = true ↔ IZ Q now := by
    rw [tickOk_iff, h.made, h.done, h.bg]; unfold IZ; simp
  have hdone : ∀ (st : Int) (ok tl : Bool), (true = tl) → (ok = decide (st = 200)) → CR (qD P st) (Ly Q Q.ans Q.there Q.carts Q.order Q.kept Q.refused Q.full tl ok true) := fun st ok tl h1 h2 =>
    ⟨h.self, h.req, h.need, h.bg, h.id, h.key, h.seen, h.l, h.put, h.made, rfl, h1, h2, h.a, fun e => ⟨(h.u e).kept, (h.u e).refused, (h.u e).full, (h.u e).order, (h.u e).cart, fun e2 => by have e3 : tl = false := e2; rw [← h1] at e3; cases e3⟩,
      fun e => ⟨(h.g e).kr, (h.g e).cs, (h.g e).fine, (h.g e).hl, (h.g e).cl, (h.g e).oi, (h.g e).th, (h.g e).ca, (h.g e).good, (h.g e).bad, fun e2 => by cases e2⟩⟩
  by_cases hk : DY P now = true
  · have hr := hiff.1 hk
    cases ha : P.answered with
    | true =>
      obtain ⟨e1, e2, e3⟩ := Kc hk ha
      obtain ⟨r1, r2, r3⟩ := Nk hr (h.told.symm.trans ha)
      have hL : CR (qD P P.status) (QX Q) := hdone P.status Q.ok Q.told (by rw [← h.told]; exact ha.symm) h.ok
      rw [e1, e2, e3, r1, r2, r3]
      refine ⟨hL, ?_, rfl⟩
      cases hp : P.put with
      | true => rw [FT (Q := qD P P.status) hp, FC (.inl (by show Q.put = true; rw [← h.put]; exact hp))]
      | false => exact (hL.g hp).mend h.l hM.ok hp (h.put.symm.trans hp) h.self h.key hL.ok
    | false =>
      obtain ⟨e1, e2, e3⟩ := Kd hk ha
      obtain ⟨r1, r2, r3⟩ := P1 hr (h.told.symm.trans ha)
      rw [e1, e2, e3, r1, r2, r3]
      exact ⟨hdone 504 false true rfl rfl, rfl, rfl⟩
  · obtain ⟨e1, e2, e3⟩ := Fh hk
    obtain ⟨r1, r2, r3⟩ := P0 (fun e => hk (hiff.2 e))
    rw [e1, e2, e3, r1, r2, r3]
    exact ⟨h, rfl, rfl⟩
theorem P4 {ts:List Au}(h:Eu ts ts.length):(ts.map Au.node).Nodup:=by
 rw[List.nodup_iff_pairwise_ne,List.pairwise_iff_getElem]
 intro i j hi hj hij e
 rw[List.length_map]at hi hj
 rw[List.getElem_map,List.getElem_map]at e
 obtain⟨-,h2⟩:=h j ts[j] hj (List.getElem?_eq_getElem hj)
 exact h2 ts[i] (List.mem_take_iff_getElem.2 ⟨i,by omega,rfl⟩) e
theorem CR.begin {self req need began id:Int}{key:ByteArray}{va vc:MV}{ts:List Au}{put:Bool}{bl:List Bool}{cs:List MV}(hb:bl=List.replicate ts.length false)(hcl:cs.length=ts.length)(hc:put=false→vc=nilV)(hn:1≤need)(hl:need≤ts.length)(ht:Eu ts ts.length):
  CR ⟨self,req,need,began,id,key,va,ts,[],false,false,true,0,put,vc,0,false⟩ ⟨self,req,need,began,put,id,key,va,vc,ts,bl,bl,cs,[],0,0,false,false,false,false⟩:=by
 subst hb
 have hr:∀(i:Nat) (t:Au),ts[i]? =some t→(List.replicate ts.length false)[i]? =some false:=fun i t h=>by
  rw[List.getElem?_replicate,if_pos (List.getElem?_eq_some_iff.1 h).1]
 refine⟨rfl,rfl,rfl,rfl,rfl,rfl,rfl,rfl,rfl,rfl,rfl,rfl,rfl,⟨P4 ht,List.length_replicate,hr⟩,fun _=>⟨rfl,rfl,rfl,rfl,rfl,fun _=>⟨by show(0:Int)<need;omega,by show need≤(ts.length:Int)-0;omega⟩⟩,fun e=> ?_⟩
 have e2:put=false:=e
 exact⟨⟨rfl,rfl⟩,rfl,fun _=>rfl,List.length_replicate,hcl,fun o ho=>absurd ho Zs,hr,(fun i t v _ hv=>absurd hv Zs),fun _=>by rw[hc e2];rfl,(fun e=>by cases e),fun _=>rfl⟩
end
end Go.Proofs.YtocgdeefgohdhaaGreat
namespace Go.Proofs.YtocgdeefgohdhaaGreat
open Go.Proofs.Tryz
attribute [local irreducible] RD RS AD RL RA RT BH Al
def BT (a:Option Addr)(t:A6):Nat→Prop:=fun q=>own a q∨Aw t q
def Eo (w:World)(id s:Int)(v:MV)(a:Option Addr)(c:Nat)(t:A6)(r:Value):Prop:=(s=0∧r= .slice none 0 0∧a=none∧t=nilS)∨(s≠0∧r= .slice a [(⟨id,s,(An v t).cart⟩:AM)].length c∧Ag w 63 a c [(⟨id,s,(An v t).cart⟩:AM)]∧BF w t v∧CN t∧∀q,Aw t q→¬own a q)
section
variable {w w' w0:World}{S F F':Nat→Prop}{id s:Int}{v v':MV}{a:Option Addr}{c m x:Nat}{t:A6}{r r':Value}{P:PM}{Q:RM}{i:Nat}
theorem Eo.own_lt (h:Eo w id s v a c t r):∀q,BT a t q→q<w.heap.size:=by
 rcases h with⟨-,-,rfl,rfl⟩|⟨-,-,h1,h2,-⟩
 ·rintro q (h|h)
  ·exact absurd h (Ad q)
  ·exact absurd h (nil_CS q)
 ·rintro q (h|h)
  ·exact h1.own_lt q h
  ·exact h2.own_lt q h
theorem Eo.keepO (h:Eo w id s v a c t r)(k:Ao S w w')(hn:∀q,BT a t q→¬S q):Eo w' id s v a c t r:=by
 rcases h with h|⟨h0,h1,h2,h3,h4,h5⟩
 ·exact .inl h
 ·exact .inr ⟨h0,h1,h2.keepO k fun q hq=>hn q (.inl hq),h3.keepO k fun q hq=>hn q (.inr hq),h4,h5⟩
theorem Eo.ext (h:Eo w id s v a c t r)(k:As w w'):Eo w' id s v a c t r:=h.keepO k fun _ _ h=>h
theorem Eo.open (h:Eo w id s v a c t r)(h0:s≠0):r= .slice a [(⟨id,s,(An v t).cart⟩:AM)].length c∧Ag w 63 a c [(⟨id,s,(An v t).cart⟩:AM)]∧BF w t v∧CN t∧∀q,Aw t q→¬own a q:=by
 rcases h with h|h
 ·exact absurd h.1 h0
 ·exact h.2
theorem Eo.zero (h:Eo w id s v a c t r)(h0:s=0):r= .slice none 0 0:=by
 rcases h with h|h
 ·exact h.2.1
 ·exact absurd h0 h.1
theorem P5 (h:Gc w0 w F id s v r):∃a c t,Eo w id s v a c t r∧(∀q,BT a t q→w0.heap.size≤q)∧(∀q,F q→¬BT a t q):=by
 rcases h with⟨h1,h2⟩|⟨h0,a,c,t,h1,h2,h3,h4,h5,h6,h7,h8,h9⟩
 ·exact⟨none,0,nilS,.inl ⟨h1,h2,rfl,rfl⟩,fun q h=>h.elim (fun h=>absurd h (Ad q)) (fun h=>absurd h (nil_CS q)),fun q _ h=>h.elim (Ad q) (nil_CS q)⟩
 ·exact⟨a,c,t,.inr ⟨h0,h1,h2,h3,h4,h7⟩,fun q h=>h.elim (h5 q) (h6 q),fun q hF h=>h.elim (h8 q hF) (h9 q hF)⟩
theorem D4.swap (h:D4 w F id s v r)(e:s≠0→v'=v):D4 w F id s v' r:=by
 rcases h with h|h
 ·exact .inl h
 ·rw[e h.1];exact .inr h
theorem D4.vok (h:D4 w F id s v r)(h0:s≠0):Fl v:=by
 rcases h with h|⟨-,-,-,-,-,-,-,h,-⟩
 ·exact absurd h.1 h0
 ·exact h
def P6 (w w':World)(m:Nat)(F:Nat→Prop)(Q':PM)(ms:List MV)(id s:Int)(v:MV)(r:Value):Prop:=
 ∃F' ks a c ta tc tt t0,r= .tuple #[.slice a ((ks:List Mg).map Mg.c).length c,t0]∧B3 w' m F' Q'∧Ag w' 48 a c (ks.map Mg.c)∧Be w' ks∧ks.map Mg.v=ms∧Eo w' id s v ta tc tt t0∧(∀q,F' q→F q∨w.heap.size≤q)∧(∀q,own a q→w.heap.size≤q)∧(∀q,AA ks q→w.heap.size≤q)∧(∀q,BT ta tt q→w.heap.size≤q)∧(∀q,F' q→¬own a q)∧(∀q,F' q→¬AA ks q)∧(∀q,AA ks q→¬own a q)∧(∀q,F' q→¬BT ta tt q)∧(∀q,own a q→¬BT ta tt q)∧(∀q,AA ks q→¬BT ta tt q)∧ks.length≤1048576∧Ao F w w'
theorem QY (h:B3 w m F P):P.targets.length≤1048576:=by obtain⟨M,rfl,rfl,-,h⟩:=h;exact h.tl
theorem BX.b {ms:List MV}(h:BX w w' m F P ms id s v r)(hl:ms.length≤P.targets.length):P6 w w' m F P ms id s v r:=by
 obtain⟨F',ks,a,c,t0,h1,h2,h3,h4,h5,h6,h7,h8,h9,h10,h11,h12,h13⟩:=h
 obtain⟨ta,tc,tt,k1,k2,k3⟩:=P5 h6
 have hk:=QY h2
 have hk2:=congrArg List.length h5
 rw[List.length_map]at hk2
 exact⟨F',ks,a,c,ta,tc,tt,t0,h1,h2,h3,h4,h5,k1,h7,h8,h9,k2,h10,h11,h12,fun q hq=>k3 q (.inl hq),fun q hq=>k3 q (.inr (.inl hq)),fun q hq=>k3 q (.inr (.inr hq)),by omega,h13⟩
theorem JD (h:IV P):(D2 P).length≤P.targets.length:=by
 by_cases c:P.put=true∨P.status≠200∨P.bad=true
 ·have e:D2 P=[]:=by
   rcases c with c|c
   ·exact FT c
   ·exact GP c
  rw[e];exact Nat.zero_le _
 ·rw[Hf (by simpa using fun e=>c (.inl e)) (fun e=>c (.inr (.inl e))) (fun e=>c (.inr (.inr e)))]
  exact Jx h.1
theorem P7 (h:Fs P):(Hg P v).length≤(DA P v).targets.length:=by
 unfold Hg
 split
 ·exact JD h.on.ok
 ·exact Nat.zero_le _
theorem Ml {now:Int}(h:Fs P):(DC P now).length≤(Dt P now).targets.length:=by
 by_cases hk:DY P now=true
 ·cases ha:P.answered with
  |true=>obtain⟨e1,e2,-⟩:=Kc hk ha;rw[e1,e2];exact JD (P:=qD P P.status) h.ok
  |false=>rw[(Kd hk ha).2.1];exact Nat.zero_le _
 ·rw[(Fh hk).2.1];exact Nat.zero_le _
end
theorem To (m:Nat)(F:Nat→Prop)(P:PM)(v:MV)(s:A6)(w:World)(hM:B3 w m F P)(hI:Fs P)(hR:Dj w s v)(hv:Fl v)(hE:EE v.ent)(hcap:v.ent.length≤s.ec):
  Calls prog 11 #[jp m,.agg #[.int .i64 ((An v s).kind),.int .i64 ((An v s).frm),.int .i64 ((An v s).to),.int .i64 ((An v s).req),.string ((An v s).key),.slice s.ea v.ent.length s.ec,.slice s.ma v.mrk.length s.mc,.slice s.ca v.cl.length s.cc,.int .i64 ((An v s).owner),.int .i64 ((An v s).part),.int .i64 ((An v s).n),.int .i64 (((An v s).ring).parts),.int .i64 (((An v s).ring).copies),.int .i64 (((An v s).ring).spots),.slice s.ba v.mem.length s.bc,.slice s.pa v.pe.length s.pc,.slice s.sa v.su.length s.sc]] w (AU fun r w'=>P6 w w' m F (DA P v) (Hg P v) P.id (DB P v) (DT P v) r):=
 (Tl m F P v s w hM hI hR hv hE hcap).mono fun e w' ⟨r,h1,h2⟩=>⟨r,h1,h2.b (P7 hI)⟩
theorem Se (m:Nat)(F:Nat→Prop)(P:PM)(now:Int)(w:World)(hM:B3 w m F P)(hI:Fs P):
  Calls prog 18 #[jp m,.int .i64 now] w (AU fun r w'=>P6 w w' m F (Dt P now) (DC P now) P.id (BM P now) nilV r):=
 (R8 m F P now w hM hI).mono fun e w' ⟨r,h1,h2⟩=>⟨r,h1,h2.b (Ml hI)⟩
theorem SZ (w0:World)(x:Nat)(F:Nat→Prop)(P:PM)(Q:RM)(v:MV)(s:A6)(w:World)(hX:C3 w0 w x F Q)(hI:Fs P)(hL:CR P Q)(hK0:As w0 w)(hF:∀q,F q→w0.heap.size≤q)(hR0:AE w0 s v)(hov:AV v s):
  Calls prog 17 #[jp x,.agg #[.int .i64 ((An v s).kind),.int .i64 ((An v s).frm),.int .i64 ((An v s).to),.int .i64 ((An v s).req),.string ((An v s).key),.slice s.ea v.ent.length s.ec,.slice s.ma v.mrk.length s.mc,.slice s.ca v.cl.length s.cc,.int .i64 ((An v s).owner),.int .i64 ((An v s).part),.int .i64 ((An v s).n),.int .i64 (((An v s).ring).parts),.int .i64 (((An v s).ring).copies),.int .i64 (((An v s).ring).spots),.slice s.ba v.mem.length s.bc,.slice s.pa v.pe.length s.pc,.slice s.sa v.su.length s.sc]] w (AU fun r w'=>∃Q',CR (DA P v) Q'∧Dr w0 w w' x F Q' (Hg P v) P.id (DB P v) (DT P v) r):=by
 obtain⟨R,rfl,rfl,h,ho,hIn⟩:=hX
 refine(Tm w0 x R v s w h ho hIn hK0 hF hR0 hov (fun i hi=>hL.lt hI.ok hi)).mono ?_
 rintro e_ w_ ⟨r_,h1_,(⟨hn,hS⟩|⟨i,hc,hop,hS⟩)⟩
 ·obtain⟨e1,e2,e3⟩:=Gf (hL.on_none hn)
  refine⟨r_,h1_,_,(show CR (DA P v) R.pv by rw[e1];exact hL),?_⟩
  rw[e2,e3,hL.id]
  obtain⟨F',ks,a,c,t0,k1,k2,k3,k4,k5,k6,k7,k8⟩:=hS
  exact⟨F',ks,a,c,t0,k1,k2,k3,k4,k5,k6.swap (fun e=>absurd rfl e),k7,k8⟩
 ·obtain⟨e1,e2,e3,e4⟩:=hL.on hI hc hop
  refine⟨r_,h1_,_,e1,?_⟩
  rw[e2,hL.id]
  obtain⟨F',ks,a,c,t0,k1,k2,k3,k4,k5,k6,k7,k8⟩:=hS
  rw[←e3]at k6
  exact⟨F',ks,a,c,t0,k1,k2,k3,k4,k5,k6.swap e4,k7,k8⟩
theorem QZ (w0:World)(x:Nat)(F:Nat→Prop)(P:PM)(Q:RM)(now:Int)(w:World)(hX:C3 w0 w x F Q)(hI:Fs P)(hL:CR P Q)(hK0:As w0 w)(hF:∀q,F q→w0.heap.size≤q):
  Calls prog 19 #[jp x,.int .i64 now] w (AU fun r w'=>∃Q',CR (Dt P now) Q'∧Dr w0 w w' x F Q' (DC P now) P.id (BM P now) nilV r):=by
 obtain⟨R,rfl,rfl,h,ho,hIn⟩:=hX
 refine(Sc w0 x R now w h ho hIn hK0 hF).mono ?_
 rintro e_ w_ ⟨r_,h1_,hS⟩
 obtain⟨e1,e2,e3⟩:=hL.tick hI (now:=now)
 refine⟨r_,h1_,_,e1,?_⟩
 rw[e2,e3,hL.id]
 exact hS
theorem Kj (w0:World)(x:Nat)(F:Nat→Prop)(Q:RM)(w:World)(hX:C3 w0 w x F Q):Calls prog 22 #[jp x] w (AU fun r w'=>r= .bool Q.done∧As w w'):=by
 obtain⟨R,rfl,rfl,h,-,-⟩:=hX
 exact Sd x R w h
attribute [local irreducible] X
theorem N4 (id S:Int)(v:MV)(s t:A6)(w:World)(hR:AE w s v)(hQ:AE w t v)(hv:Fl v):
  Calls prog 60 #[.agg #[.int .i64 id,.int .i64 S,.slice s.ea v.ent.length s.ec,.slice s.ma v.mrk.length s.mc,.slice s.ca v.cl.length s.cc],.agg #[.int .i64 id,.int .i64 S,.slice t.ea v.ent.length t.ec,.slice t.ma v.mrk.length t.mc,.slice t.ca v.cl.length t.cc]] w (AU (fun r w'=>r= .bool true∧As w w')):=by
 have hv0:=hv;obtain⟨hv1,hv2,hv3,hv4,hv5,hv6⟩:=hv;refine Af (n:=24) func60 rfl rfl rfl ?_;refine jG ?_;refine jR<|jB ?_;intro a5 a7 a4 a1 a2;have:w.heap.size≤a5:=a4;clear a4;have K0:=(a2:As w _);refine jR<|jB ?_;intro a8 a9 a3 aa a0;have ab:=Aj a1.lt a3;have:=Nat.le_trans K0.size a3;clear a3;replace a1:=a1.ext a0;refine EB ?_;refine Cc ?_;refine jV (A3 (BQ rfl rfl) Zs) ?_;refine EB ?_;refine Cc ?_;refine jT<|jO (A3 (BQ rfl rfl) Zs) ?_;refine jV (BA rfl rfl rfl) ?_;refine jG ?_;replace hR:=(hR.ext a2).ext a0;replace hQ:=(hQ.ext a2).ext a0;refine jT<|jC (El v v s t _ hR hQ hv0) ?_;rintro _ ac ⟨rfl,a6⟩;rw[EZ];refine jV (BA rfl rfl rfl) ?_;refine jG ?_;refine jJ func60 ?_;replace K0:=(K0.ext a0).ext a6;exact⟨_,rfl,rfl,K0⟩
theorem P8 (id S:Int)(v:MV)(s t:A6)(a d:Option Addr)(c e:Nat)(w:World)(hs:At w a [(⟨id,S,(An v s).cart⟩:AM)])(ht:At w d [(⟨id,S,(An v t).cart⟩:AM)])(hR:AE w s v)(hQ:AE w t v)(hv:Fl v):
  Calls prog 59 #[.slice a 1 c,.slice d 1 e,.func (.func 60) #[] #[]] w (AU (fun r w'=>r= .bool true∧As w w')):=by
 have hR0:=hR;have hQ0:=hQ;refine Af (n:=32) func59 rfl rfl rfl ?_;refine CU ?_;refine jV (Ay (c:=1) (BR underlying58 rfl) rfl) ?_;refine Cc ?_;refine jV (Ay (c:=1) (BR underlying58 rfl) rfl) ?_;refine jG ?_;refine Al.condF rfl ?_;refine Cc ?_;refine jV (Ay (c:=1) (BR underlying58 rfl) rfl) ?_;refine jG ?_;refine Al.unloop ?_;refine jG ?_;refine CE ?_;refine Cc ?_;obtain⟨ai,aj,a8,a9,aa,a3⟩:=hs.el (i:=0) Zs;have hc_4_lt:=a3.lt;obtain rfl:(⟨id,S,(An v s).cart⟩:AM)=a8:=Option.some.inj a9;refine jV (AQ underlying58 ty63 rfl rfl aa Zs) ?_;refine jV (Gn (v':= .agg #[.int .i64 id,.int .i64 S,.slice s.ea v.ent.length s.ec,.slice s.ma v.mrk.length s.mc,.slice s.ca v.cl.length s.cc]) (CD (v:= .agg #[.int .i64 ((⟨id,S,(An v s).cart⟩:AM).id),.int .i64 ((⟨id,S,(An v s).cart⟩:AM).status),.slice (((⟨id,S,(An v s).cart⟩:AM).cart).entries.a) (((⟨id,S,(An v s).cart⟩:AM).cart).entries.len) (((⟨id,S,(An v s).cart⟩:AM).cart).entries.cap),.slice ((((⟨id,S,(An v s).cart⟩:AM).cart).ctx).marks.a) ((((⟨id,S,(An v s).cart⟩:AM).cart).ctx).marks.len) ((((⟨id,S,(An v s).cart⟩:AM).cart).ctx).marks.cap),.slice ((((⟨id,S,(An v s).cart⟩:AM).cart).ctx).cloud.a) ((((⟨id,S,(An v s).cart⟩:AM).cart).ctx).cloud.len) ((((⟨id,S,(An v s).cart⟩:AM).cart).ctx).cloud.cap)]) (y:=(⟨id,S,(An v s).cart⟩:AM)) ty63 rfl a3 rfl) rfl) ?_;refine jR<|jA ?_;intro ab ak a4 a0 ac;have al:=Aj a3.lt a4;have:w.heap.size≤ab:=a4;clear a4;have K0:=(ac:As w _);refine jG ?_;refine jR<|jS a0 ?_;intro am a0 ad;refine CU ?_;obtain⟨an,ao,ae,af,ag,a1⟩:=ht.el (i:=0) Zs;have hc_18_lt:=a1.lt;replace K0:=K0.n1 ad;obtain rfl:(⟨id,S,(An v t).cart⟩:AM)=ae:=Option.some.inj af;refine jV (AQ underlying58 ty63 rfl rfl ag Zs) ?_;replace a1:=a1.ext K0;refine jV (Gn (v':= .agg #[.int .i64 id,.int .i64 S,.slice t.ea v.ent.length t.ec,.slice t.ma v.mrk.length t.mc,.slice t.ca v.cl.length t.cc]) (CD (v:= .agg #[.int .i64 ((⟨id,S,(An v t).cart⟩:AM).id),.int .i64 ((⟨id,S,(An v t).cart⟩:AM).status),.slice (((⟨id,S,(An v t).cart⟩:AM).cart).entries.a) (((⟨id,S,(An v t).cart⟩:AM).cart).entries.len) (((⟨id,S,(An v t).cart⟩:AM).cart).entries.cap),.slice ((((⟨id,S,(An v t).cart⟩:AM).cart).ctx).marks.a) ((((⟨id,S,(An v t).cart⟩:AM).cart).ctx).marks.len) ((((⟨id,S,(An v t).cart⟩:AM).cart).ctx).marks.cap),.slice ((((⟨id,S,(An v t).cart⟩:AM).cart).ctx).cloud.a) ((((⟨id,S,(An v t).cart⟩:AM).cart).ctx).cloud.len) ((((⟨id,S,(An v t).cart⟩:AM).cart).ctx).cloud.cap)]) (y:=(⟨id,S,(An v t).cart⟩:AM)) ty63 rfl a1 rfl) rfl) ?_;refine jR<|jA ?_;intro ap aq a2 a5 a6;have ar:=Aj a0.lt a2;have au:=Aj a1.lt a2;have:=Nat.le_trans K0.size a2;clear a2;refine jR<|jS a5 ?_;intro av a5 a7;replace a0:=(a0.ext a6).kp a7;refine jG ?_;replace K0:=(K0.ext a6).n1 a7;refine jR<|AD.callV (vals:=[.agg #[.int .i64 id,.int .i64 S,.slice s.ea v.ent.length s.ec,.slice s.ma v.mrk.length s.mc,.slice s.ca v.cl.length s.cc],.agg #[.int .i64 id,.int .i64 S,.slice t.ea v.ent.length t.ec,.slice t.ma v.mrk.length t.mc,.slice t.ca v.cl.length t.cc]]) en60.h rfl rfl (N4 id S v s t _ (hR0.ext K0) (hQ0.ext K0) hv) ?_;rintro _ aw ⟨rfl,ah⟩;refine jV (AS (b:=true) rfl) ?_;refine jG ?_;refine Al.condF rfl ?_;refine jG ?_;refine jV (Ay (c:=1) (Aq rfl rfl Zd Zd) Zd) ?_;refine jG ?_;refine Al.inLoop ?_;refine jG ?_;refine Al.condF rfl ?_;refine jG ?_;refine jJ func59 ?_;replace K0:=K0.ext ah;exact⟨_,rfl,rfl,K0⟩
theorem P9 (w:World):
  Calls prog 59 #[.slice none 0 0,.slice none 0 0,.func (.func 60) #[] #[]] w (AU (fun r w'=>r= .bool true∧As w w')):=by
 refine Af (n:=32) func59 rfl rfl rfl ?_;refine CU ?_;refine jV (Ay (c:=0) (BR underlying58 rfl) rfl) ?_;refine Cc ?_;refine jV (Ay (c:=0) (BR underlying58 rfl) rfl) ?_;refine jG ?_;refine Al.condF rfl ?_;refine Cc ?_;refine jV (Ay (c:=0) (BR underlying58 rfl) rfl) ?_;refine jG ?_;refine Al.unloop ?_;refine jG ?_;refine Al.condF rfl ?_;refine jG ?_;refine jJ func59 ?_;exact⟨_,rfl,rfl,(Ao.refl _ w)⟩
theorem Lu (id S:Int)(v:MV)(s t:A6)(a d:Option Addr)(c e:Nat)(w:World)(hs:At w a [(⟨id,S,(An v s).cart⟩:AM)])(ht:At w d [(⟨id,S,(An v t).cart⟩:AM)])(hR:AE w s v)(hQ:AE w t v)(hv:Fl v):
  Calls prog 21 #[.slice a 1 c,.slice d 1 e] w (AU (fun r w'=>r= .bool true∧As w w')):=by
 refine Af (n:=8) func21 rfl rfl rfl ?_;refine jG ?_;refine jR<|jC (P8 id S v s t a d c e _ hs ht hR hQ hv) ?_;rintro _ a1 ⟨rfl,a0⟩;have K0:=(a0:As w _);refine jG ?_;refine jJ func21 ?_;exact⟨_,rfl,rfl,K0⟩
theorem Lv (w:World):
  Calls prog 21 #[.slice none 0 0,.slice none 0 0] w (AU (fun r w'=>r= .bool true∧As w w')):=by
 refine Af (n:=8) func21 rfl rfl rfl ?_;refine jG ?_;refine jR<|jC (P9 _) ?_;rintro _ a1 ⟨rfl,a0⟩;have K0:=(a0:As w _);refine jG ?_;refine jJ func21 ?_;exact⟨_,rfl,rfl,K0⟩
theorem Hv {id s:Int}{v:MV}{a:Option Addr}{c:Nat}{t:A6}{r r':Value}{F:Nat→Prop}(w:World)(h:Eo w id s v a c t r)(h2:D4 w F id s v r'):Calls prog 21 #[r,r'] w (AU fun z w'=>z= .bool true∧As w w'):=by
 rcases h2 with⟨h0,rfl⟩|⟨h0,a2,c2,t2,rfl,k1,k2,k3,-⟩
 ·rw[h.zero h0];exact Lv w
 ·obtain⟨rfl,j1,j2,-⟩:=h.open h0
  exact Lu id s v t t2 a a2 c c2 w j1.sl k1 j2.r k2 k3
end Go.Proofs.YtocgdeefgohdhaaGreat
