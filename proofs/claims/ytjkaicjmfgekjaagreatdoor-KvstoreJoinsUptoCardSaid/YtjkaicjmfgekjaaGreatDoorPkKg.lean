/-
  Kg, Kh
-/
import Derived.Test.YtjkaicjmfgekjaaGreatDoorRows
import Derived.Test.YtjkaicjmfgekjaaGreatDoorPkKf
import Derived.Test.YtjkaicjmfgekjaaGreatDoorPkI
set_option linter.all false
set_option maxRecDepth 100000
set_option maxHeartbeats 4000000
namespace Go.Proofs.YtjkaicjmfgekjaaGreatDoor
open Go.Proofs.Tryz
attribute [local irreducible] RD RS Av RL RA RT CJ Aj
def Vp (ms:List Aa)(cl:List Ad)(es:List Ag)(ms2:List Aa)(cl2:List Ad)(es2:List Ag):Prop:=TA ms cl ms2 cl2∧∀x∈es2,B0 ms cl x.dot→x∈es
instance (ms :List Aa)(cl:List Ad)(es:List Ag)(ms2:List Aa)(cl2:List Ad)(es2:List Ag):Decidable (Vp ms cl es ms2 cl2 es2):=by unfold Vp;infer_instance
def Su (a b:MV):Prop:=Vp a.mrk a.cl a.ent b.mrk b.cl b.ent
theorem CT {ms:List Aa}{cl:List Ad}(h:DF ms cl):BJ ms cl:=h.canon
theorem Jw {a:MV}(h:Ca a=0):Fa a.mrk a.cl a.ent:=Co (by unfold Ca at h;exact h)
theorem Dq {a b:MV}(h:BZ a b=0):Ca a=0∧Ca b=0∧(Ar a.mrk a.cl b.mrk b.cl).1=0∧A7 a.mrk a.cl a.ent b.mrk b.cl b.ent=(0,(Ar a.mrk a.cl b.mrk b.cl).2,AR a.mrk a.cl a.ent b.mrk b.cl b.ent):=by
 unfold BZ at h
 unfold Ca
 by_cases h1:Bj a.mrk a.cl a.ent=0
 ·by_cases h2:Bj b.mrk b.cl b.ent=0
  ·by_cases h3:(Ar a.mrk a.cl b.mrk b.cl).1=0
   ·by_cases h4:64<(AR a.mrk a.cl a.ent b.mrk b.cl b.ent).length∨32<itemsN (AR a.mrk a.cl a.ent b.mrk b.cl b.ent)
    ·rw[Gg h1 h2 h3 h4]at h;exact absurd h Zd
    ·by_cases h5:Fc a.ent b.ent
     ·rw[Hj h1 h2 h3 h4 h5]at h;exact absurd h Zd
     ·exact⟨h1,h2,h3,Eu h1 h2 h3 h4 h5⟩
   ·rw[Hi h1 h2 h3]at h;exact absurd h h3
  ·rw[Fw h1 h2]at h;exact absurd h h2
 ·rw[Hh h1]at h;exact absurd h h1
theorem HK {ms ms2:List Aa}{cl cl2:List Ad}(hA:DF ms cl)(hB:DF ms2 cl2)(h:(Ar ms cl ms2 cl2).1=0)(d:Ad):B0 (Ar ms cl ms2 cl2).2.1 (Ar ms cl ms2 cl2).2.2 d↔B0 ms cl d∨B0 ms2 cl2 d:=by
 have hM:∀m∈ms++ms2,AE m.d:=fun m hm=>(List.mem_append.1 hm).elim (fun h=>hA.may h) (fun h=>hB.may h)
 have hD:∀d∈cl++cl2,AE d:=fun d hd=>(List.mem_append.1 hd).elim (fun h=>hA.mayC h) (fun h=>hB.mayC h)
 have hp:=G5 hM hD
 obtain⟨hcn,hcv⟩:=GE hp.1 hp.2
 rw[CG (DB hA) (DB hB)]at h⊢
 by_cases hl:64<(Bu (ms++ms2) (cl++cl2)).1.length∨64<(Bu (ms++ms2) (cl++cl2)).2.length
 ·rw[(DC hM hD).1 hl]at h;exact absurd h Zd
 ·rw[(DC hM hD).2 hl]
  refine(hcv d).trans ?_
  rw[(CT hA).raw,(CT hB).raw]
  unfold F8
  constructor
  ·rintro⟨h1,⟨m,hm,h2⟩|h2⟩
   ·rcases List.mem_append.1 hm with hm|hm
    ·exact .inl ⟨h1,.inl ⟨m,hm,h2⟩⟩
    ·exact .inr ⟨h1,.inl ⟨m,hm,h2⟩⟩
   ·rcases List.mem_append.1 h2 with h2|h2
    ·exact .inl ⟨h1,.inr h2⟩
    ·exact .inr ⟨h1,.inr h2⟩
  ·rintro(⟨h1,⟨m,hm,h2⟩|h2⟩|⟨h1,⟨m,hm,h2⟩|h2⟩)
   ·exact⟨h1,.inl ⟨m,List.mem_append_left _ hm,h2⟩⟩
   ·exact⟨h1,.inr (List.mem_append_left _ h2)⟩
   ·exact⟨h1,.inl ⟨m,List.mem_append_right _ hm,h2⟩⟩
   ·exact⟨h1,.inr (List.mem_append_right _ h2)⟩
section
variable {a b c:MV}
theorem HL (h:BZ a b=0)(d:Ad):B0 (AD a b).mrk (AD a b).cl d↔B0 a.mrk a.cl d∨B0 b.mrk b.cl d:=by
 obtain⟨h1,h2,h3,h4⟩:=Dq h
 unfold AD
 show B0 (A7 a.mrk a.cl a.ent b.mrk b.cl b.ent).2.1.1 (A7 a.mrk a.cl a.ent b.mrk b.cl b.ent).2.1.2 d↔_
 rw[h4]
 exact HK (Jw h1).ctx (Jw h2).ctx h3 d
theorem HM (h:BZ a b=0)(x:Ag):x∈(AD a b).ent→(x∈a.ent∧(x∈b.ent∨¬B0 b.mrk b.cl x.dot))∨(x∈b.ent∧¬B0 a.mrk a.cl x.dot):=by
 obtain⟨h1,h2,h3,h4⟩:=Dq h
 unfold AD
 show x∈(A7 a.mrk a.cl a.ent b.mrk b.cl b.ent).2.2→_
 rw[h4]
 intro hx
 rw[AR,HJ,List.mem_append]at hx
 rcases hx with hx|hx
 ·obtain⟨h5,h6⟩:=List.mem_filter.1 hx
  refine .inl ⟨h5,?_⟩
  simpa[Bool.or_eq_true]using h6
 ·exact .inr (kB_mem.1 hx)
theorem Su.left (hc:Wg c)(hA:Wg a)(h:BZ a b=0)(hl:Su c a):Su c (AD a b):=by
 have hcov:=(Jd (CT hc) (CT hA)).1 hl.1
 refine⟨(Jd (CT hc) (CT (KL h))).2 fun d hd=>(HL h d).2 (.inl (hcov d hd)),fun x hx hd=> ?_⟩
 rcases HM h x hx with h1|h1
 ·exact hl.2 x h1.1 hd
 ·exact absurd (hcov _ hd) h1.2
theorem Su.right (h:BZ a b=0):Su b (AD a b):=by
 have hB:=(Jw (Dq h).2.1).ctx
 refine⟨(Jd (CT hB) (CT (KL h))).2 fun d hd=>(HL h d).2 (.inr hd),fun x hx hd=> ?_⟩
 rcases HM h x hx with h1|h1
 ·exact h1.2.elim id fun h2=>absurd hd h2
 ·exact h1.1
end
section
variable {ms ms2 M M2:List Aa}{cl cl2 D D2:List Ad}{es es2:List Ag}{d:Ad}
theorem raw_app :F8 (M++M2) (D++D2) d↔F8 M D d∨F8 M2 D2 d:=by
 unfold F8
 constructor
 ·rintro⟨h1,⟨m,hm,h2⟩|h2⟩
  ·rcases List.mem_append.1 hm with hm|hm
   ·exact .inl ⟨h1,.inl ⟨m,hm,h2⟩⟩
   ·exact .inr ⟨h1,.inl ⟨m,hm,h2⟩⟩
  ·rcases List.mem_append.1 h2 with h2|h2
   ·exact .inl ⟨h1,.inr h2⟩
   ·exact .inr ⟨h1,.inr h2⟩
 ·rintro(⟨h1,⟨m,hm,h2⟩|h2⟩|⟨h1,⟨m,hm,h2⟩|h2⟩)
  ·exact⟨h1,.inl ⟨m,List.mem_append_left _ hm,h2⟩⟩
  ·exact⟨h1,.inr (List.mem_append_left _ h2)⟩
  ·exact⟨h1,.inl ⟨m,List.mem_append_right _ hm,h2⟩⟩
  ·exact⟨h1,.inr (List.mem_append_right _ h2)⟩
theorem KN {ms':List Aa}{cl':List Ad}(hA:DF ms cl)(hB:DF ms2 cl2)(hC:DF ms' cl')(h:∀d,B0 ms' cl' d↔B0 ms cl d∨B0 ms2 cl2 d):Ar ms cl ms2 cl2=(0,ms',cl'):=by
 have hM:∀m∈ms++ms2,AE m.d:=fun m hm=>(List.mem_append.1 hm).elim (fun h=>hA.may h) (fun h=>hB.may h)
 have hD:∀d∈cl++cl2,AE d:=fun d hd=>(List.mem_append.1 hd).elim (fun h=>hA.mayC h) (fun h=>hB.mayC h)
 have hp:=G5 hM hD
 have e:Bu (ms++ms2) (cl++cl2)=(ms',cl'):=Ml hp.1 hp.2 hC.canon (fun d=>by rw[h d,hA.canon.raw,hB.canon.raw,raw_app])
 have h1:=hC.1
 have h2:=hC.2.1
 rw[CG (DB hA) (DB hB),(DC hM hD).2 (by rw[e];simp only;omega),e]
theorem MT (h:es.Pairwise DQ):Gq es=es:=List.mergeSort_of_pairwise (h.imp fun{a b} h=>by
 unfold MG;rw[decide_eq_false (fun h2=>Hb a (DN _ _ _ h h2))];rfl)
theorem Sv (h1:∀x∈es,x∈es2∨¬B0 ms2 cl2 x.dot)(h2:∀x∈es2,B0 ms cl x.dot)(hs:es.Pairwise DQ):AR ms cl es ms2 cl2 es2=es:=by
 have e1:kA es ms2 cl2 es2=es:=List.filter_eq_self.2 fun x hx=>by
  rcases h1 x hx with h|h
  ·rw[decide_eq_true h];rfl
  ·rw[decide_eq_false h];simp
 have e2:kB ms cl es2=[]:=List.filter_eq_nil_iff.2 fun x hx=>by rw[decide_eq_true (h2 x hx)];decide
 rw[AR,e1,e2,List.append_nil,MT hs]
theorem MU (hA:Bj ms cl es=0)(hB:Bj ms2 cl2 es2=0)(hc:∀d,B0 ms2 cl2 d→B0 ms cl d)(he:∀x∈es,x∈es2∨¬B0 ms2 cl2 x.dot):A7 ms cl es ms2 cl2 es2=(0,(ms,cl),es):=by
 have kA:=Co hA
 have kB:=Co hB
 have e1:=KN kA.ctx kB.ctx kA.ctx (fun d=>⟨.inl,fun h=>h.elim id (hc d)⟩)
 have e2:=Sv (ms:=ms) (cl:=cl) he (fun x hx=>hc _ (kB.mem hx).2.2.2) kA.sorted
 have h5:¬Fc es es2:=by
  rintro⟨x,hx,y,hy,h1,h2⟩
  rcases he x hx with h|h
  ·exact h2 (kB.dots h hy h1)
  ·exact h (h1▸(kB.mem hy).2.2.2)
 have h6:=kA.len
 have h7:=kA.items
 rw[Eu hA hB (by rw[e1]) (by rw[e2];omega) h5,e1,e2]
theorem can_nil :Bj [] [] []=0:=It (DB ⟨Nat.zero_le _,Nat.zero_le _,fun i m h=>absurd h Zs,fun i m h=>absurd h Zs⟩) (Nat.zero_le _) rfl (Nat.zero_le _)
theorem cov_nil :¬B0 [] [] d:=by
 rintro(⟨h1,h2⟩|⟨-,h⟩)
 ·rw[Tx]at h2;omega
 ·cases h
theorem Sw (h:Bj ms cl es=0):A7 [] [] [] ms cl es=(0,(ms,cl),es):=by
 have k:=Co h
 have e1:=KN (Co can_nil).ctx k.ctx k.ctx (fun d=>⟨.inr,fun h=>h.elim (fun h=>absurd h cov_nil) id⟩)
 have e2:AR [] [] [] ms cl es=es:=by
  rw[AR,show kA [] ms cl es=[]from rfl,List.nil_append,show kB [] [] es=es from List.filter_eq_self.2 fun x _=>by rw[decide_eq_false cov_nil];rfl,MT k.sorted]
 have h6:=k.len
 have h7:=k.items
 rw[Eu can_nil h (by rw[e1]) (by rw[e2];omega) (fun⟨x,hx,_⟩=>absurd hx Zs),e1,e2]
theorem Qc (h : Fa ms cl es) : Bj ms cl es = 0 := by
  refine It (DB h.ctx) h.len ?_ h.items
  have : ∀ n, n ≤ es.length → A0 ms cl es n = 0 := by
    intro n
    induction n with
    | zero => intro _; rfl
    | succ n ih =>
      intro hn
      have hx : es[n]? = some es[n] := List.getElem?_eq_getElem Zo
      exact EG (ih Zo) hx (errE_iff.2 (h.ent n _ hx))
  exact this _ (Nat.le_refl _)
theorem Sx (hA:Bj ms cl es=0)(hB:Bj ms2 cl2 es2=0)(h1:(Ar ms cl ms2 cl2).1=0)(h2:¬(64<(AR ms cl es ms2 cl2 es2).length∨32<itemsN (AR ms cl es ms2 cl2 es2))):Bj (Ar ms cl ms2 cl2).2.1 (Ar ms cl ms2 cl2).2.2 (AR ms cl es ms2 cl2 es2)=0:=by
 have a:=Co hA
 have b:=Co hB
 have hu:=Lr a b
 have hs:(AR ms cl es ms2 cl2 es2).Pairwise DQ:=He hu
 have hd:Jq (AR ms cl es ms2 cl2 es2):=(List.mergeSort_perm _ _).symm.pairwise hu (fun h=>Ne.symm h)
 refine Qc ⟨KK h1,by omega,fun i x hx=> ?_,by omega⟩
 have hm:=List.mem_of_getElem? hx
 have hk:A6 x.item=true∧(1≤x.qty∧x.qty≤1000000)∧Bw x.price∧B0 (Ar ms cl ms2 cl2).2.1 (Ar ms cl ms2 cl2).2.2 x.dot:=by
  rcases MJ hm with hm|hm
  ·obtain⟨k1,k2,k3,k4⟩:=a.mem hm;exact⟨k1,k2,k3,(HK a.ctx b.ctx h1 _).2 (.inl k4)⟩
  ·obtain⟨k1,k2,k3,k4⟩:=b.mem hm;exact⟨k1,k2,k3,(HK a.ctx b.ctx h1 _).2 (.inr k4)⟩
 refine⟨hk.1,hk.2.1,hk.2.2.1,hk.2.2.2,fun y hy=> ?_,fun y hy=> ?_⟩
 ·obtain⟨h0,hy⟩:=EM (Nat.le_of_lt (List.getElem?_eq_some_iff.1 hx).1) hy
  exact Ct hs Zo hy hx
 ·obtain⟨j,hj,rfl⟩:=List.mem_take_iff_getElem.1 hy
  exact Ct hd (i:=j) Zo (List.getElem?_eq_getElem Zo) hx
end
section
variable {a b x:MV}
theorem MW (h:BZ a b=0):(AD a b).mrk=(Ar a.mrk a.cl b.mrk b.cl).2.1∧(AD a b).cl=(Ar a.mrk a.cl b.mrk b.cl).2.2∧(AD a b).ent=AR a.mrk a.cl a.ent b.mrk b.cl b.ent:=by
 obtain⟨-,-,-,e⟩:=Dq h
 unfold AD
 refine⟨?_,?_,?_⟩<;>simp only[e]
theorem Jx (hA:Ca a=0)(hB:Ca b=0)(h:A7 a.mrk a.cl a.ent b.mrk b.cl b.ent=(0,(a.mrk,a.cl),a.ent)):BZ a b=0∧(AD a b).ent=a.ent∧(AD a b).mrk=a.mrk∧(AD a b).cl=a.cl:=by
 unfold BZ AD;simp only[h];exact⟨trivial,trivial,trivial,trivial⟩
theorem KO (h:BZ a b=0):Ca (AD a b)=0:=by
 obtain⟨h1,h2,h3,h4⟩:=Dq h
 obtain⟨e1,e2,e3⟩:=MW h
 have hl:¬(64<(AR a.mrk a.cl a.ent b.mrk b.cl b.ent).length∨32<itemsN (AR a.mrk a.cl a.ent b.mrk b.cl b.ent)):=fun hl=>by
  unfold Ca at h1 h2
  rw[Gg h1 h2 h3 hl]at h4;exact absurd (show(51:Int)=0 from congrArg Prod.fst h4) Zd
 unfold Ca at h1 h2⊢
 rw[e1,e2,e3];exact Sx h1 h2 h3 hl
theorem Qd (h:Ca x=0):BZ x x=0∧(AD x x).ent=x.ent∧(AD x x).mrk=x.mrk∧(AD x x).cl=x.cl:=
 Jx h h (by unfold Ca at h;exact MU h h (fun _ h=>h) (fun _ h=> .inl h))
theorem NV (h:BZ a b=0):BZ (AD a b) b=0∧(AD (AD a b) b).ent=(AD a b).ent∧(AD (AD a b) b).mrk=(AD a b).mrk∧(AD (AD a b) b).cl=(AD a b).cl:=by
 have hJ:=KO h
 obtain⟨-,h2,-,-⟩:=Dq h
 refine Jx hJ h2 ?_
 unfold Ca at hJ h2
 refine MU hJ h2 (fun d hd=>(HL h d).2 (.inr hd)) (fun y hy=> ?_)
 rcases HM h y hy with⟨-,h3⟩|⟨h3,-⟩
 ·exact h3
 ·exact .inl h3
theorem NW (h:Ca x=0):BZ nilV x=0∧(AD nilV x).ent=x.ent∧(AD nilV x).mrk=x.mrk∧(AD nilV x).cl=x.cl:=by
 unfold Ca at h
 unfold BZ AD
 have e:=Sw h
 rw[show nilV.mrk=[]from rfl,show nilV.cl=[]from rfl,show nilV.ent=[]from rfl]
 simp only[e];exact⟨trivial,trivial,trivial,trivial⟩
theorem Sy (h:¬Ca x=0):BZ nilV x=Ca x:=by
 unfold Ca at h⊢
 unfold BZ
 rw[show nilV.mrk=[]from rfl,show nilV.cl=[]from rfl,show nilV.ent=[]from rfl,Fw can_nil h]
end
attribute [local irreducible] AE FC CC BS BL B2 B0 Du
attribute [local irreducible] DQ D5 itemsN CQ A0 Bj B4 Gr A6 Bw
attribute [local irreducible] Au DL AH BX AM
attribute [local irreducible] BY KI CD Bb Ia
def FX (b m1:Nat)(F:Nat→Prop):Nat→Prop:=fun q=>F q∨(q=b∨q=m1)
def FY (b lg m1 m3:Nat)(F:Nat→Prop)(o:Option Kc):Nat→Prop:=fun q=>FX b m1 F q∨(q=lg∨q=m3)∨∃t,o=some t∧By t.s t.v q
structure TY (w:World)(b lg m1 m2 m3 d:Nat)(F:Nat→Prop)(st:Int)(pl:List PF)(ps:List (ByteArray×Value))(key:ByteArray)(o:Option Kc):Prop where
 blk:AA w b [.int .i32 0,.int .u32 0,jp lg,.int .i64 st,.map (some m1),.map (some m2),.map (some m3)] 94
 log:AA w lg [jp d] 161
 disk:AF w d F 4194304 pl
 mc:AQ w m1 ps
 mm:AQ w m3 ([]:List (ByteArray×Value))
 ge:∀q,FX b m1 F q→7≤q
 ne:b≠lg∧b≠m1∧b≠m3∧m1≠lg∧m1≠m3
 nf:¬F b∧¬F lg∧¬F m1∧¬F m3
 get:Dc ps key=o.map (fun t=>(Kc.kv t).2)
 cart:∀t,o=some t→Bn w t.s t.v∧BB t.v t.s∧∀q,By t.s t.v q→¬FX b m1 F q
def MZ (w:World)(b:Nat)(Z:Nat→Prop)(st:Int)(pl:List PF)(key:ByteArray)(ov:Option MV):Prop:=
 ∃(lg m1 m2 m3 d:Nat) (F:Nat→Prop) (ps:List (ByteArray×Value)) (o:Option Kc),Z=FY b lg m1 m3 F o∧ov=o.map (·.v)∧TY w b lg m1 m2 m3 d F st pl ps key o
section
variable {w w':World}{b lg m1 m2 m3 d:Nat}{F Z S:Nat→Prop}{st:Int}{pl:List PF}{ps:List (ByteArray×Value)}{key:ByteArray}{o:Option Kc}{ov:Option MV}
theorem TY.lts (h:TY w b lg m1 m2 m3 d F st pl ps key o):∀q,FY b lg m1 m3 F o q→q<w.heap.size:=by
 rintro q ((hq|rfl|rfl)|(rfl|rfl)|⟨t,ht,hq⟩)
 ·exact h.disk.own_lt q hq
 ·exact h.blk.lt
 ·exact h.mc.own_lt q rfl
 ·exact h.log.lt
 ·exact h.mm.own_lt q rfl
 ·exact(h.cart t ht).1.own_lt q hq
theorem TY.keep (h:TY w b lg m1 m2 m3 d F st pl ps key o)(k:Ah S w w')(hn:∀q,FY b lg m1 m3 F o q→¬S q):TY w' b lg m1 m2 m3 d F st pl ps key o:=
 ⟨h.blk.keep k (hn b (.inl (.inr (.inl rfl)))),h.log.keep k (hn lg (.inr (.inl (.inl rfl)))),h.disk.keepO k (fun q hq=>hn q (.inl (.inl hq))),h.mc.keepO k (fun q hq=>hn q (.inl (.inr (.inr hq)))),h.mm.keepO k (fun q hq=>hn q (.inr (.inl (.inr hq)))),h.ge,h.ne,h.nf,h.get,
  fun t ht=>⟨(h.cart t ht).1.keepO k (fun q hq=>hn q (.inr (.inr ⟨t,ht,hq⟩))),(h.cart t ht).2⟩⟩
theorem MZ.own_lt (h:MZ w b Z st pl key ov):∀q,Z q→q<w.heap.size:=by obtain⟨lg,m1,m2,m3,d,F,ps,o,rfl,-,h⟩:=h;exact h.lts
theorem MZ.keepO (h:MZ w b Z st pl key ov)(k:Ah S w w')(hn:∀q,Z q→¬S q):MZ w' b Z st pl key ov:=by
 obtain⟨lg,m1,m2,m3,d,F,ps,o,rfl,hov,h⟩:=h;exact⟨lg,m1,m2,m3,d,F,ps,o,rfl,hov,h.keep k hn⟩
theorem MZ.ext (h:MZ w b Z st pl key ov)(k:Aq w w'):MZ w' b Z st pl key ov:=h.keepO k fun _ _=>id
theorem TY.after (h:TY w b lg m1 m2 m3 d F st pl ps key o)(hS:∀q,S q→FX b m1 F q)(k:Ah S w w')(hb:AA w' b [.int .i32 0,.int .u32 0,jp lg,.int .i64 st,.map (some m1),.map (some m2),.map (some m3)] 94)(hD:AF w' d F 4194304 pl)(hM:AQ w' m1 ps):TY w' b lg m1 m2 m3 d F st pl ps key o:=
 have hlg:¬FX b m1 F lg:=fun e=>e.elim h.nf.2.1 (fun e=>e.elim (fun e=>h.ne.1 e.symm) (fun e=>h.ne.2.2.2.1 e.symm))
 have hm3:¬FX b m1 F m3:=fun e=>e.elim h.nf.2.2.2 (fun e=>e.elim (fun e=>h.ne.2.2.1 e.symm) (fun e=>h.ne.2.2.2.2 e.symm))
 ⟨hb,h.log.keep k (fun e=>hlg (hS _ e)),hD,hM,h.mm.keepO k (fun q (hq:q=m3) e=>hm3 (hq▸hS _ e)),h.ge,h.ne,h.nf,h.get,fun t ht=>⟨(h.cart t ht).1.keepO k (fun q hq e=>(h.cart t ht).2.2 q hq (hS _ e)),(h.cart t ht).2⟩⟩
theorem Sz {ps : List (ByteArray × Value)} {key : ByteArray} {v : Value} : Dc (FH ps key v) key = some v := by
  have first : ∀ (ps : List (ByteArray × Value)) (i k : Nat) (v0 : Value), CB key ps i = some (k, v0) → Dc (ps.set (k - i) (key, v)) key = some v := by
    intro ps
    induction ps with
    | nil => intro i k v0 h; simp [CB] at h
    | cons p l ih =>
      intro i k v0 h
      obtain ⟨j, hj, -⟩ := Fj h
      unfold CB at h
      split at h
      · simp only [Option.some.injEq, Prod.mk.injEq] at h
        obtain ⟨rfl, -⟩ := h
        simp [Dc]
      · rename_i hne
        obtain ⟨j2, hj2, -⟩ := Fj h
        have e := ih (i + 1) k v0 h
        rw [show k - i = (k - (i + 1)) + 1 by omega, List.set_cons_succ, Dc, List.find?_cons, decide_eq_false hne]
        exact e
  rw [FH]
  split
  · rename_i i v0 hm
    exact first ps 0 i v0 hm
  · rename_i hm
    rw [Dc, List.find?_append, List.find?_eq_none.2 (fun p hp => by simpa using fun e => Gw hm p hp (Eq.symm e))]
    simp
noncomputable def Qe (o:Option MV)(v:MV):Prop:=∀a,o=some a→FD a (wV o v)=false
open Classical in
noncomputable def Fy (pl:List PF)(o:Option MV)(key:ByteArray)(v:MV):List PF:=if Cy o key v=0∧Qe o v then(AM 4194304 pl (Gj key v)).2 else pl
open Classical in
noncomputable def EO (o:Option MV)(key:ByteArray)(v:MV):Option MV:=if Cy o key v=0∧Qe o v then some (wV o v)else o
theorem FZ (v:MV)(s:FE)(h:MZ w b Z st pl key ov)(hL:AZ w)(hks:key.size≤4294967295)(hR:Bn w s v)(hok:BB v s)(hap:∀q,By s v q→¬Z q)(happ:A6 key=true→Ca v=0→(AM 4194304 pl (Gj key v)).1=0):
  Calls prog 9 #[jp b,.string key,.agg #[.slice s.ea v.ent.length s.ec,.slice s.ma v.mrk.length s.mc,.slice s.ca v.cl.length s.cc]] w (AS fun r w'=>∃Z',MZ w' b Z' st (Fy pl ov key v) key (EO ov key v)∧A8 w Z Z'∧Ah Z w w'∧
   ((Cy ov key v≠0∧r= .tuple #[.agg #[.slice none 0 0,.slice none 0 0,.slice none 0 0],.int .i64 (Cy ov key v)])∨(Cy ov key v=0∧∃s1,r= .tuple #[.agg #[.slice (((DE (wV ov v) s1).cart).entries.a) (((DE (wV ov v) s1).cart).entries.len) (((DE (wV ov v) s1).cart).entries.cap),.slice ((((DE (wV ov v) s1).cart).ctx).marks.a) ((((DE (wV ov v) s1).cart).ctx).marks.len) ((((DE (wV ov v) s1).cart).ctx).marks.cap),.slice ((((DE (wV ov v) s1).cart).ctx).cloud.a) ((((DE (wV ov v) s1).cart).ctx).cloud.len) ((((DE (wV ov v) s1).cart).ctx).cloud.cap)],.int .i64 0]∧C7 w' s1 (wV ov v)∧Gs s1∧PM (wV ov v)∧(∀q,Dn s1 q→w.heap.size≤q)∧∀q,Dn s1 q→¬Z' q))):=by
 obtain⟨lg,m1,m2,m3,d,F,ps,o,rfl,rfl,h⟩:=h
 obtain⟨n1,n2,n3,n4,n5⟩:=h.ne
 obtain⟨f1,f2,f3,f4⟩:=h.nf
 have hL7:=hL.size
 have hsub:∀q,FX b m1 F q→FY b lg m1 m3 F o q:=fun q hq=> .inl hq
 refine Bq (Wj b lg m1 m2 m3 d F st pl ps o key v s w hks h.blk h.log h.disk h.mc h.mm hL (fun q hq=>h.ge q (.inl hq)) (h.ge b (.inr (.inl rfl))) (h.ge m1 (.inr (.inr rfl))) n1 n2 n3 n4 n5 f1 f2 f3 f4 h.get h.cart hR hok (fun q hq e=>hap q hq (hsub q e)) happ) fun r w' hp=> ?_
 obtain⟨hb,K,hp⟩:=hp
 have K2:Ah (FY b lg m1 m3 F o) w w':=K.mono fun q _ hq=>hsub q hq
 have hlt:=h.lts
 rcases hp with⟨hn,rfl,hD,hM⟩|⟨hn,s1,rfl,hO,hA,hvo,hg,⟨t,ho,hs,hD,hM,hz⟩|⟨hs,F',s2,hD,hmv,hR2,hok2,hg2,hz2,hz1,h12,hM⟩⟩
 ·refine⟨_,⟨lg,m1,m2,m3,d,F,ps,o,rfl,?_,?_⟩,fun q hq=> .inl hq,K2,.inl ⟨hn,rfl⟩⟩
  ·rw[EO,if_neg (fun e=>hn e.1)]
  ·rw[Fy,if_neg (fun e=>hn e.1)];exact h.after (fun q hq=>hq) K hb hD hM
 ·have hnw:¬Qe (o.map (·.v)) v:=fun e=>by have:=e t.v (by rw[ho];rfl);rw[hs]at this;cases this
  refine⟨_,⟨lg,m1,m2,m3,d,F,ps,o,rfl,?_,?_⟩,fun q hq=> .inl hq,K2,.inr ⟨hn,s1,rfl,hO,hA,hvo,hg,fun q hq e=>absurd (hg q hq) (Nat.not_le.2 (hlt q e))⟩⟩
  ·rw[EO,if_neg (fun e=>hnw e.2)]
  ·rw[Fy,if_neg (fun e=>hnw e.2)];exact h.after (fun q hq=>hq) K hb hD hM
 ·have hw:Qe (o.map (·.v)) v:=fun a ha=>by obtain⟨t,ht,rfl⟩:=Option.map_eq_some_iff.1 ha;exact hs t ht
  have hnew:∀q,q<w.heap.size→¬F q→¬F' q:=fun q hq hF e=>(hmv q e).elim hF (fun e=>absurd e (Nat.not_le.2 hq))
  have hlg:¬FX b m1 F lg:=fun e=>e.elim f2 (fun e=>e.elim (fun e=>n1 e.symm) (fun e=>n4 e.symm))
  have hm3:¬FX b m1 F m3:=fun e=>e.elim f4 (fun e=>e.elim (fun e=>n3 e.symm) (fun e=>n5 e.symm))
  have hm:A8 w (FY b lg m1 m3 F o) (FY b lg m1 m3 F' (some ⟨key,wV (o.map (·.v)) v,s2⟩)):=by
   rintro q ((hq|hq)|hq|⟨t,ht,hq⟩)
   ·exact(hmv q hq).imp (fun e=> .inl (.inl e)) id
   ·exact .inl (.inl (.inr hq))
   ·exact .inl (.inr (.inl hq))
   ·obtain rfl:=Option.some.inj ht;exact .inr (hg2 q hq)
  have hbl:=h.blk.lt
  have hml:m1<w.heap.size:=h.mc.own_lt m1 rfl
  refine⟨_,⟨lg,m1,m2,m3,d,F',FH ps key (.agg #[.slice (((DE (wV (o.map (·.v)) v) s2).cart).entries.a) (((DE (wV (o.map (·.v)) v) s2).cart).entries.len) (((DE (wV (o.map (·.v)) v) s2).cart).entries.cap),.slice ((((DE (wV (o.map (·.v)) v) s2).cart).ctx).marks.a) ((((DE (wV (o.map (·.v)) v) s2).cart).ctx).marks.len) ((((DE (wV (o.map (·.v)) v) s2).cart).ctx).marks.cap),.slice ((((DE (wV (o.map (·.v)) v) s2).cart).ctx).cloud.a) ((((DE (wV (o.map (·.v)) v) s2).cart).ctx).cloud.len) ((((DE (wV (o.map (·.v)) v) s2).cart).ctx).cloud.cap)]),some ⟨key,wV (o.map (·.v)) v,s2⟩,rfl,?_,?_⟩,hm,K2,.inr ⟨hn,s1,rfl,hO,hA,hvo,hg,?_⟩⟩
  ·rw[EO,if_pos ⟨hn,hw⟩];rfl
  ·rw[Fy,if_pos ⟨hn,hw⟩]
   refine⟨hb,h.log.keep K hlg,hD,hM,h.mm.keepO K (fun q (hq:q=m3) e=>hm3 (hq▸e)),?_,h.ne,⟨hnew b hbl f1,hnew lg h.log.lt f2,hnew m1 hml f3,hnew m3 (h.mm.own_lt m3 rfl) f4⟩,Sz,?_⟩
   ·rintro q (hq|hq)
    ·exact(hmv q hq).elim (fun e=>h.ge q (.inl e)) (fun e=>Nat.le_trans hL7 e)
    ·exact h.ge q (.inr hq)
   ·intro t ht
    obtain rfl:=Option.some.inj ht
    refine⟨hR2,hok2,fun q hq e=> ?_⟩
    have hq2:=hg2 q hq
    rcases e with e|rfl|rfl
    ·exact hz2 q hq e
    ·omega
    ·omega
  ·intro q hq e
   have hq2:=hg q hq
   rcases e with(e|rfl|rfl)|(rfl|rfl)|⟨t,ht,e⟩
   ·exact hz1 q hq e
   ·omega
   ·omega
   ·have:=h.log.lt;omega
   ·have:=h.mm.own_lt q rfl;omega
   ·obtain rfl:=Option.some.inj ht;exact h12 q hq e
theorem Lu (h:MZ w b Z st pl key ov)(hL:AZ w):Calls prog 13 #[jp b,.string key] w (AS fun r w'=>MZ w' b Z st pl key ov∧Ah Z w w'∧((ov=none∧r= .tuple #[.agg #[.slice none 0 0,.slice none 0 0,.slice none 0 0],.int .i64 91])∨∃v,ov=some v∧∃s1,r= .tuple #[.agg #[.slice s1.ea v.ent.length s1.ec,.slice s1.ma v.mrk.length s1.mc,.slice s1.ca v.cl.length s1.cc],.int .i64 0]∧C7 w' s1 v∧Gs s1∧(∀q,Dn s1 q→w.heap.size≤q)∧BB v s1)):=by
 obtain⟨lg,m1,m2,m3,d,F,ps,o,rfl,rfl,h⟩:=h
 obtain⟨n1,n2,n3,n4,n5⟩:=h.ne
 obtain⟨f1,f2,f3,f4⟩:=h.nf
 refine Bq (Wk b lg m1 m2 m3 d F st pl ps o key w h.blk h.log h.disk h.mc h.mm hL (fun q hq=>h.ge q (.inl hq)) (h.ge b (.inr (.inl rfl))) (h.ge m1 (.inr (.inr rfl))) n1 n2 n3 n4 n5 f1 f2 f3 f4 h.get h.cart) fun r w' hp=> ?_
 obtain⟨hb,K,hp⟩:=hp
 have hS:∀q,one b q→FX b m1 F q:=fun q hq=> .inr (.inl hq)
 refine⟨⟨lg,m1,m2,m3,d,F,ps,o,rfl,rfl,h.after hS K hb (h.disk.keepO K (fun q hq e=>f1 (show F b from(show q=b from e)▸hq))) (h.mc.keepO K (fun q (hq:q=m1) (e:q=b)=>n2 (e.symm.trans hq)))⟩,K.mono (fun q _ hq=> .inl (hS q hq)),?_⟩
 rcases hp with⟨rfl,rfl⟩|⟨t,ho,s1,rfl,hO,hA,hg⟩
 ·exact .inl ⟨rfl,rfl⟩
 ·exact .inr ⟨t.v,by rw[ho];rfl,s1,rfl,hO,hA,hg,⟨(h.cart t ho).2.1.ok,(h.cart t ho).2.1.ent,hO.ent.le_cap⟩⟩
theorem Hm (h:MZ w b Z st pl key ov)(hL:AZ w):Calls prog 11 #[jp b] w (AS fun r w'=>r= .int .i64 ((DA pl (Az pl):Nat):Int)∧MZ w' b Z st pl key ov∧Ah Z w w'):=by
 obtain⟨lg,m1,m2,m3,d,F,ps,o,rfl,rfl,h⟩:=h
 obtain⟨n1,n2,n3,n4,n5⟩:=h.ne
 obtain⟨f1,f2,f3,f4⟩:=h.nf
 refine Bq (TW b lg m1 m2 m3 d F st pl ps o key w h.blk h.log h.disk h.mc h.mm hL (fun q hq=>h.ge q (.inl hq)) (h.ge b (.inr (.inl rfl))) (h.ge m1 (.inr (.inr rfl))) n1 n2 n3 n4 n5 f1 f2 f3 f4 h.get h.cart) fun r w' hp=> ?_
 obtain⟨hr,hb,K⟩:=hp
 have hS:∀q,one b q→FX b m1 F q:=fun q hq=> .inr (.inl hq)
 exact⟨hr,⟨lg,m1,m2,m3,d,F,ps,o,rfl,rfl,h.after hS K hb (h.disk.keepO K (fun q hq e=>f1 (show F b from(show q=b from e)▸hq))) (h.mc.keepO K (fun q (hq:q=m1) (e:q=b)=>n2 (e.symm.trans hq)))⟩,K.mono (fun q _ hq=> .inl (hS q hq))⟩
theorem SA (key:ByteArray)(w:World)(hL:AZ w):Calls prog 6 #[] w (AS fun v w'=>∃d b Z,v= .tuple #[jp d,jp b,.bool true]∧MZ w' b Z 1 (FB (AM 4194304 [] [1,1]).2) key none∧(∀q,Z q→w.heap.size≤q)∧Aq w w'):=by
 refine Bq (St w hL) fun v w' hp=> ?_
 obtain⟨d,b,lg,m1,m2,m3,F,rfl,hb,hl,hD,hF,hM1,hM3,⟨g1,g2,g3,g4⟩,⟨n1,n2,n3,n4,n5,f1,f2,f3,f4⟩,K⟩:=hp
 have h7:=hL.size
 have hz:∀q,FY b lg m1 m3 F none q→w.heap.size≤q:=by
  rintro q ((hq|rfl|rfl)|(rfl|rfl)|⟨t,ht,-⟩)
  ·exact hF q hq
  ·exact g1
  ·exact g3
  ·exact g2
  ·exact g4
  ·cases ht
 exact⟨d,b,_,rfl,⟨lg,m1,m2,m3,d,F,[],none,rfl,rfl,⟨hb,hl,hD,hM1,hM3,fun q hq=>Nat.le_trans h7 (hz q (.inl hq)),⟨n1,n2,n3,n4,n5⟩,⟨f1,f2,f3,f4⟩,rfl,fun t ht=>by cases ht⟩⟩,hz,K⟩
end
def Pu (v:MV):Prop:=v={nilV with ent:=v.ent,mrk:=v.mrk,cl:=v.cl}
theorem Pu.eq {a b:MV}(ha:Pu a)(hb:Pu b)(h1:a.ent=b.ent)(h2:a.mrk=b.mrk)(h3:a.cl=b.cl):a=b:=by rw[ha,hb,h1,h2,h3]
theorem O9 (a b:MV):Pu (AD a b):=by unfold Pu AD;rfl
theorem pu_nil :Pu nilV:=rfl
theorem KP {a b:MV}:FD a b=true↔a.ent=b.ent∧a.mrk=b.mrk∧a.cl=b.cl:=by
 unfold FD;simp[and_assoc]
theorem H5 {a b:MV}(h1:a.ent=b.ent)(h2:a.mrk=b.mrk)(h3:a.cl=b.cl):Eo a b=true:=by
 unfold Eo La;simp[h1,h2,h3]
structure JI (key:ByteArray)(c:MV)(th:Bool)(ov:Option MV)(pl:List PF)(n:Nat):Prop where
 pure:Pu c
 no:th=false→ov=none∧c=nilV
 yes:th=true→ov=some c∧Ca c=0∧A6 key=true
 log:∃rs,Gm 1 rs pl∧rs.length≤n+1∧∀p∈rs,p.length≤9100
theorem SB {key:ByteArray}{v:MV}(hk:A6 key=true)(hb:EN v.ent)(hc:Ca v=0):0<(Gj key v).length∧(Gj key v).length≤9100:=by
 have h1:=MQ hb hc
 have h7:key.data.toList.length=key.size:=by rw[Array.length_toList];rfl
 have h5:=BQ (n:=key.size) (by have:=Fx hk;omega)
 have h6:=Fx hk
 simp only[Gj,CD,List.length_append,List.length_cons,List.length_nil,h7]
 omega
section
variable {key :ByteArray}{c x:MV}{th:Bool}{ov:Option MV}{pl:List PF}{n:Nat}
theorem Vq (key:ByteArray):JI key nilV false none (FB (AM 4194304 [] [1,1]).2) 0:=
 ⟨pu_nil,fun _=>⟨rfl,rfl⟩,fun h=>(by cases h),[[1,1]],rec_ok.2.sync Zd,by decide,by decide⟩
theorem JI.app (h:JI key c th ov pl n)(hn:n<40)(hb:EN x.ent)(hk:A6 key=true)(hc:Ca x=0):(AM 4194304 pl (Gj key x)).1=0∧∃rs,Gm 1 rs (AM 4194304 pl (Gj key x)).2∧rs.length≤n+2∧∀p∈rs,p.length≤9100:=by
 obtain⟨rs,h1,h2,h3⟩:=h.log
 obtain⟨l0,l1⟩:=SB hk hb hc
 obtain⟨e,h4⟩:=h1.append l0 l1 Zo h3
 refine⟨e,_,h4,by simp;omega,fun p hp=> ?_⟩
 rcases List.mem_append.1 hp with hp|hp
 ·exact h3 p hp
 ·simp only[List.mem_singleton]at hp;subst hp;exact l1
theorem JI.why (h : JI key c th ov pl n) (hk : A6 key = true) : Cy ov key x = BZ c x := by
  have hk2 : ¬ A6 key = false := by rw [hk]; decide
  cases th with
  | false =>
    obtain ⟨rfl, rfl⟩ := h.no rfl
    by_cases hc : Ca x = 0
    · rw [Dp hk2 hc, (NW hc).1]; rfl
    · rw [FW hk2 hc, Sy hc]
  | true =>
    obtain ⟨rfl, h1, -⟩ := h.yes rfl
    by_cases hc : Ca x = 0
    · rw [Dp hk2 hc]; rfl
    · rw [FW hk2 hc]
      unfold BZ
      unfold Ca at h1 hc ⊢
      rw [Fw h1 hc]
theorem JI.skip (h:JI key c th ov pl n)(hn:Cy ov key x≠0):JI key c th (EO ov key x) (Fy pl ov key x) (n+1):=by
 rw[EO,Fy,if_neg (fun e=>hn e.1),if_neg (fun e=>hn e.1)]
 obtain⟨rs,h1,h2,h3⟩:=h.log
 exact⟨h.pure,h.no,h.yes,rs,h1,by omega,h3⟩
noncomputable def Cd (th:Bool)(c x:MV):MV:=if th=true then AD c x else x
theorem JI.name (h:Cy ov key x=0):A6 key=true:=by
 by_cases hk:A6 key=false
 ·rw[Ef hk]at h;cases h
 ·simpa using hk
theorem JI.can (h:Cy ov key x=0):Ca x=0:=by
 by_cases hc:Ca x=0
 ·exact hc
 ·rw[FW (by rw[JI.name h];decide) hc]at h;exact absurd h hc
theorem JI.next (h : JI key c th ov pl n) (hx : Pu x) (h0 : Cy ov key x = 0) : Pu (Cd th c x) ∧ Ca (Cd th c x) = 0 ∧ EO ov key x = some (Cd th c x) ∧ wV ov x = Cd th c x := by
  have hk := JI.name h0
  have hw := h.why (x := x) hk
  rw [h0] at hw
  cases th with
  | false =>
    obtain ⟨rfl, rfl⟩ := h.no rfl
    refine ⟨hx, JI.can h0, ?_, ?_⟩
    · rw [EO, if_pos ⟨h0, fun a ha => by cases ha⟩]; unfold wV; rfl
    · unfold wV; rfl
  | true =>
    obtain ⟨rfl, h1, -⟩ := h.yes rfl
    have e : wV (some c) x = AD c x := by unfold wV; rfl
    refine ⟨O9 _ _, KO hw.symm, ?_, e⟩
    rw [EO]
    split
    · rw [e]; rfl
    · rename_i hno
      have hs : FD c (AD c x) = true := by
        by_cases hs : FD c (AD c x) = true
        · exact hs
        · exact absurd ⟨h0, fun a ha => by obtain rfl := Option.some.inj ha; rw [e]; simpa using hs⟩ hno
      obtain ⟨h1, h2, h3⟩ := KP.1 hs
      exact congrArg some (h.pure.eq (O9 _ _) h1 h2 h3)
theorem JI.step (h:JI key c th ov pl n)(hn:n<40)(hx:Pu x)(hb:EN x.ent)(h0:Cy ov key x=0):JI key (Cd th c x) true (EO ov key x) (Fy pl ov key x) (n+1):=by
 obtain⟨h1,h2,h3,-⟩:=h.next hx h0
 refine⟨h1,fun e=>(by cases e),fun _=>⟨h3,h2,JI.name h0⟩,?_⟩
 rw[Fy]
 split
 ·exact(h.app hn hb (JI.name h0) (JI.can h0)).2
 ·obtain⟨rs,h1,h2,h3⟩:=h.log
  exact⟨rs,h1,by omega,h3⟩
theorem JI.again (h:JI key c th ov pl n)(hx:Pu x)(h0:Cy ov key x=0):Cy (some (Cd th c x)) key x=0∧EO (some (Cd th c x)) key x=some (Cd th c x)∧(∀pl',Fy pl' (some (Cd th c x)) key x=pl')∧Eo (wV (some (Cd th c x)) x) (Cd th c x)=true:=by
 have hk:=JI.name h0
 have hc:=JI.can h0
 have hw:=h.why (x:=x) hk
 rw[h0]at hw
 have hj:BZ (Cd th c x) x=0∧(AD (Cd th c x) x).ent=(Cd th c x).ent∧(AD (Cd th c x) x).mrk=(Cd th c x).mrk∧(AD (Cd th c x) x).cl=(Cd th c x).cl:=by
  cases th with
  |false=>exact Qd hc
  |true=>exact NV hw.symm
 obtain⟨j1,j2,j3,j4⟩:=hj
 have e:wV (some (Cd th c x)) x=AD (Cd th c x) x:=by unfold wV;rfl
 have hn:Cy (some (Cd th c x)) key x=0:=by rw[Dp (by rw[hk];decide) hc];exact j1
 have hnw:¬(Cy (some (Cd th c x)) key x=0∧Qe (some (Cd th c x)) x):=fun hh=>by
  have:=hh.2 _ rfl
  rw[e,KP.2 ⟨j2.symm,j3.symm,j4.symm⟩]at this
  cases this
 exact⟨hn,by rw[EO,if_neg hnw],fun pl'=>by rw[Fy,if_neg hnw],by rw[e];exact H5 j2 j3 j4⟩
end
attribute [irreducible] Qe Fy EO Cd
end Go.Proofs.YtjkaicjmfgekjaaGreatDoor
namespace Go.Proofs.YtjkaicjmfgekjaaGreatDoor
open Go.Proofs.Tryz
attribute [local irreducible] RD RS Av RL RA RT CJ Aj
attribute [local irreducible] AE FC CC BS BL B2 B0 Du
attribute [local irreducible] DQ D5 itemsN CQ A0 Bj B4 Gr A6 Bw
attribute [local irreducible] Au DL AH BX AM
attribute [local irreducible] BY KI CD Bb Ia Cy AD BZ wV
structure Cx where
 v:MV
 s:FE
def Cx.c (t:Cx):AY:=(DE t.v t.s).cart
def Wl (w:World)(ks:List Cx):Prop:=∀k∈ks,Bn w k.s k.v∧BB k.v k.s∧Pu k.v
theorem SC {ks:List Cx}{i:Nat}{x:AY}(h:(ks.map Cx.c)[i]? =some x):∃p,p∈ks∧x=p.c:=by
 rw[List.getElem?_map,Option.map_eq_some_iff]at h
 obtain⟨p,hp,rfl⟩:=h
 exact⟨p,List.mem_of_getElem? hp,rfl⟩
theorem cartD_nil :∀q,¬By nilS nilV q:=by
 rintro q (⟨h,-⟩|⟨h,-⟩|⟨h,-⟩)<;>exact h rfl
theorem cart_okN :BB nilV nilS:=⟨nil_ok,fun _ h=>by simp[nilV]at h,Nat.le_refl _⟩
theorem TZ {c x:MV}:Cd false c x=x:=by unfold Cd;simp
theorem T0 {c x:MV}:Cd true c x=AD c x:=by unfold Cd;simp
theorem Dr {a b:MV}(h:a=b):Eo a b=true:=h▸H5 rfl rfl rfl
theorem Pa (a b:MV)(s t:FE)(w:World)(hA:Bn w s a)(hB:Bn w t b)(hoa:BB a s)(hob:BB b t):Calls prog 7 #[.agg #[.slice s.ea a.ent.length s.ec,.slice s.ma a.mrk.length s.mc,.slice s.ca a.cl.length s.cc],.agg #[.slice t.ea b.ent.length t.ec,.slice t.ma b.mrk.length t.mc,.slice t.ca b.cl.length t.cc]] w (AS fun r w'=>∃s',r= .tuple #[.agg #[.slice s'.ea ((AD a b).ent.length) s'.ec,.slice s'.ma ((AD a b).mrk.length) s'.mc,.slice s'.ca ((AD a b).cl.length) s'.cc],.int .i64 (BZ a b)]∧C7 w' s' (AD a b)∧Gs s'∧(∀q,Dn s' q→w.heap.size≤q)∧Aq w w'):=by
 refine(Vj s.ma a.mrk s.mc s.ca a.cl s.cc s.ea a.ent s.ec t.ma b.mrk t.mc t.ca b.cl t.cc t.ea b.ent t.ec w hoa.cap hob.cap hA.mrk hA.cl hA.ent hB.mrk hB.cl hB.ent hoa.ok.mrk hoa.ok.cl hoa.ok.ent hob.ok.mrk hob.ok.cl hob.ok.ent hoa.ent hob.ent).mono ?_
 rintro e_ w_ ⟨r_,h1,ae,ce,am,cm,ac,cc,hv,he,hm,hc,a1,a2,a3,g1,g2,g3,K⟩
 refine⟨r_,h1,⟨ae,ce,am,cm,ac,cc,none,0,none,0,none,0⟩,?_,?_,⟨a1,a2,a3⟩,?_,K⟩
 ·rw[hv];unfold AD BZ;rfl
 ·unfold AD;exact⟨he,hm,hc⟩
 ·rintro q (h|h|h)
  ·exact g1 q h
  ·exact g2 q h
  ·exact g3 q h
attribute [local irreducible] X
theorem Qf (a b:MV)(s t:FE)(w:World)(hR:Bn w s a)(hQ:Bn w t b)(hv:PM a):
  Calls prog 45 #[.agg #[.slice s.ma a.mrk.length s.mc,.slice s.ca a.cl.length s.cc],.agg #[.slice t.ma b.mrk.length t.mc,.slice t.ca b.cl.length t.cc]] w (AS (fun v w'=>v= .bool (La a b)∧Aq w w')):=by
 have hv0:=hv;obtain⟨hv1,hv2,hv3,hv4,hv5,hv6⟩:=hv;refine Ae (n:=17) func45 rfl rfl rfl ?_;refine jG ?_;refine jR<|jB ?_;intro a7 a9 a5 a0 a3;have:w.heap.size≤a7:=a5;clear a5;have K0:=(a3:Aq w _);refine jR<|jB ?_;intro aa ab a4 a6 a2;have ac:=Ai a0.lt a4;have:=Nat.le_trans K0.size a4;clear a4;replace a0:=a0.ext a2;refine jG ?_;replace hR:=(hR.ext a3).ext a2;replace hQ:=(hQ.ext a3).ext a2;refine jR<|jC (Km _ _ _ _ _ _ _ (hR).mrk (hQ).mrk Zo) ?_;rintro _ ad ⟨rfl,a1⟩;replace a0:=a0.ext a1;replace a6:=a6.ext a1;refine jG ?_;replace hR:=hR.ext a1;replace hQ:=hQ.ext a1;refine RL.gcall (vals:=[.slice s.ca a.cl.length s.cc,.slice t.ca b.cl.length t.cc]) (Bg rfl rfl rfl rfl) en84.h (fun hg=>(BM (Bf hg) (BM (Bf hg) EJ))) (fun hg=>(OI _ _ _ _ _ _ _ (hR).cl (hQ).cl Zo)) ?_;intro ae a8;refine jV (AJ rfl rfl rfl) ?_;refine jG ?_;refine jJ func45 ?_;replace K0:=((K0.ext a2).ext a1).ext a8;exact⟨_,rfl,rfl,K0⟩
theorem CU (a b:MV)(s t:FE)(w:World)(hR:Bn w s a)(hQ:Bn w t b)(hv:PM a):
  Calls prog 12 #[.agg #[.slice s.ea a.ent.length s.ec,.slice s.ma a.mrk.length s.mc,.slice s.ca a.cl.length s.cc],.agg #[.slice t.ea b.ent.length t.ec,.slice t.ma b.mrk.length t.mc,.slice t.ca b.cl.length t.cc]] w (AS (fun v w'=>v= .bool (Eo a b)∧Aq w w')):=by
 have hv0:=hv;obtain⟨hv1,hv2,hv3,hv4,hv5,hv6⟩:=hv;refine Ae (n:=17) func12 rfl rfl rfl ?_;refine jG ?_;refine jR<|jB ?_;intro a7 a9 a5 a0 a3;have:w.heap.size≤a7:=a5;clear a5;have K0:=(a3:Aq w _);refine jR<|jB ?_;intro aa ab a4 a6 a2;have ac:=Ai a0.lt a4;have:=Nat.le_trans K0.size a4;clear a4;replace a0:=a0.ext a2;refine jG ?_;replace hR:=(hR.ext a3).ext a2;replace hQ:=(hQ.ext a3).ext a2;refine jR<|jC (Kk _ _ _ _ _ _ _ (hR).ent (hQ).ent Zo) ?_;rintro _ ad ⟨rfl,a1⟩;replace a0:=a0.ext a1;replace a6:=a6.ext a1;refine jG ?_;replace hR:=hR.ext a1;replace hQ:=hQ.ext a1;refine RL.gcall (vals:=[.agg #[.slice s.ma a.mrk.length s.mc,.slice s.ca a.cl.length s.cc],.agg #[.slice t.ma b.mrk.length t.mc,.slice t.ca b.cl.length t.cc]]) (Bg rfl rfl rfl rfl) en45.h (fun hg=>(BM (Bf hg) (BM (Bf hg) EJ))) (fun hg=>(Qf a b s t _ hR hQ hv0)) ?_;intro ae a8;refine jV (AJ rfl rfl rfl) ?_;refine jG ?_;refine jJ func12 ?_;replace K0:=((K0.ext a2).ext a1).ext a8;exact⟨_,rfl,rfl,K0⟩
theorem NX (key:ByteArray)(al:Option Addr)(ks:List Cx)(lc:Nat)(w:World)(hL:AZ w)(hks:key.size≤1048576)(hl:As w al (ks.map Cx.c))(hll:ks.length≤1048576)(hcs:Wl w ks):
  Calls prog 3 #[.string key,.slice al ((ks.map Cx.c).length) lc] w (AS (fun v w'=>v= .bool true∧Aq w w')):=by
 have hLs:=hL.size;have hkl:(ks.map Cx.c).length=ks.length:=List.length_map ..;refine Ae (n:=112) func3 rfl rfl rfl ?_;refine jG ?_;refine jR<|jC (SA key _ hL) ?_;rintro _ gn ⟨go,cS,cT,rfl,c5,cU,cV⟩;have e5:=A1 (Nat.le_refl _) cU;have e6:∀q_,cT q_→7≤q_:=fun q_ h_=>Nat.le_trans hLs (Nat.le_trans (Nat.le_refl _) (cU q_ h_));have K0:=(cV:Aq w _);refine W7 ?_;refine jV (Bo (b:=true) rfl) ?_;refine jG ?_;refine Aj.condF rfl ?_;refine jG ?_;refine jR<|jA ?_;intro ac e7 cC a0 cD;have e8:=Al c5.own_lt cC;have:=Nat.le_trans K0.size cC;clear cC;have hC:Bn e7 nilS nilV:=nil_R.cart;have hcok:BB nilV nilS:=cart_okN;refine jG ?_;replace hL:=(hL.ext cV).ext cD;replace c5:=c5.ext cD;replace K0:=K0.ext cD;refine Aj.loop (ι:=Nat) (fun i ρ' w'=>∃th:Bool,∃vc:MV,∃sc:FE,∃ov:Option MV,∃pl:List PF,∃Z:Nat→Prop,Holds ρ' [(0,.string key),(6,jp cS),(8,jp ac),(9,.bool th),(27,.slice al ((ks.map Cx.c).length) lc),(28,.int .i64 (((ks.map Cx.c).length:Nat):Int)),(29,.int .i64 ((i:Nat):Int)),(4,.bool false)]∧Aq w w'∧(AZ w')∧(AA w' ac [.slice sc.ea vc.ent.length sc.ec,.slice sc.ma vc.mrk.length sc.mc,.slice sc.ca vc.cl.length sc.cc] 33)∧(Bn w' sc vc)∧(MZ w' cS Z 1 pl key ov)∧(¬By sc vc ac)∧(∀q_,By sc vc q_→¬Z q_)∧(¬Z ac)∧(∀q_,Z q_→w.heap.size≤q_)∧(∀q_,Z q_→7≤q_)∧(i≤ks.length)∧(BB vc sc)∧(JI key vc th ov pl i)) (fun i=>ks.length-i) 0 ?_ ?_
 ·refine⟨false,nilV,nilS,none,(FB (AM 4194304 [] [1,1]).2),cT,⟨rfl,rfl,rfl,rfl,rfl,rfl,rfl,rfl,trivial⟩,K0,hL,a0,hC,c5,(cartD_nil _),(fun q_ h_ _=>cartD_nil q_ h_),e8,e5,e6,?_,?_,?_⟩
  ·omega
  ·exact hcok
  ·exact Vq key
 clear c5 a0 hC;clear K0;rintro i gp gr ⟨th,vc,sc,ov,pl,Z,cW,K0,hL,a0,a1,a2,aX,a9,aa,a8,ab,hi,hcok,hJ⟩ ih1;obtain⟨ρ₀,rfl⟩:=cW.ex;clear cW;refine Ds ?_;by_cases hth:th=true
 ·subst hth
  refine jG ?_;refine jF ?_ ?_
  ·intro hc30
   refine Ex ?_;obtain⟨gs,gu,x,hx,e9,c6⟩:=hl.eo i;have hc_29_lt:=c6.lt;refine jV (AI underlying22 ty33 rfl rfl e9 Zl) ?_;obtain⟨p,hpm,hxe⟩:=SC hx;have hCp:=((hcs p hpm).1.ext K0);have hpok:=(hcs p hpm).2.1;have hpu:=(hcs p hpm).2.2;have hplt:=(hcs p hpm).1.own_lt;have eb:¬By p.s p.v ac:=fun h_=>absurd (hplt _ h_) Zo;have c7:∀q_,By p.s p.v q_→¬Z q_:=fun q_ h_ h2_=>absurd (hplt q_ h_) (Nat.not_lt.2 (a8 q_ h2_));replace c6:=c6.ext K0;refine jV (Gx (v':= .agg #[.slice p.s.ea p.v.ent.length p.s.ec,.slice p.s.ma p.v.mrk.length p.s.mc,.slice p.s.ca p.v.cl.length p.s.cc]) (Dw (v:= .agg #[.slice ((x).entries.a) ((x).entries.len) ((x).entries.cap),.slice (((x).ctx).marks.a) (((x).ctx).marks.len) (((x).ctx).marks.cap),.slice (((x).ctx).cloud.a) (((x).ctx).cloud.len) (((x).ctx).cloud.cap)]) (y:=x) ty33 rfl c6 rfl) (by rw[hxe];rfl)) ?_;refine jR<|jA ?_;intro ed gw bu a5 bR;have gx:=Ai a0.lt bu;have gy:=Ai c6.lt bu;have ee:=Al a1.own_lt bu;have bS:=Al a2.own_lt bu;have ef:=Al hCp.own_lt bu;have:=Nat.le_trans K0.size bu;clear bu;refine jG ?_;refine jR<|jS a5 ?_;intro gz a5 bT;refine jG ?_;replace hL:=(hL.ext bR).keep bT (fun q_ hq_=>by simp only[one]at hq_;subst hq_;have:=hLs;omega);replace a0:=(a0.ext bR).kp bT;replace a1:=(a1.ext bR).keepO bT (Ab ee);replace a2:=(a2.ext bR).keepO bT (Ab bS);replace hCp:=(hCp.ext bR).keepO bT (Ab ef);replace K0:=(K0.ext bR).n1 bT;refine jF ?_ ?_
   ·intro hc35
    refine jG ?_;refine jR<|jC (Lu a2 hL) ?_;rintro _ gA ⟨cX,bU,eg⟩;rcases eg with⟨hg0,rfl⟩|⟨gv,hgv,s1,rfl,hO_,hA_,hg_,hok_⟩
    ·rw[(hJ.yes rfl).1]at hg0;cases hg0
    ·have gB:=Ap hg_ a0.lt
     replace a2:=cX;clear cX;have hgo_:=hok_.ok;refine jG ?_;refine jR<|jA ?_;intro gC gD aY cY aZ;replace a0:=a0.keep bU aa;have gE:=Ai a0.lt aY;replace a5:=a5.keep bU bS;have gF:=Ai a5.lt aY;replace a1:=a1.keepO bU a9;have eh:=Al a1.own_lt aY;have ei:=Al a2.own_lt aY;replace hCp:=hCp.keepO bU c7;have ej:=Al hCp.own_lt aY;have ek:=Al hO_.own_lt aY;replace K0:=K0.new bU a8;have:=Nat.le_trans K0.size aY;clear aY;refine jR<|jS cY ?_;intro em cY b0;refine jG ?_;refine jV (Cq (N8 underlying4 rfl rfl) rfl) ?_;replace a0:=(a0.ext aZ).kp b0;refine jG ?_;replace a1:=(a1.ext aZ).keepO b0 (Ab eh);replace hO_:=(hO_.ext aZ).keepO b0 (Ab ek);refine jT<|jC (Bq (Ψ:=fun r_ w_=>r_= .bool true∧Aq em w_) (CU gv vc s1 sc _ hO_.r a1 hgo_) fun _ _ h_=>⟨h_.1.trans (congrArg Value.bool (Dr (Option.some.inj (hgv.symm.trans (hJ.yes rfl).1)))),h_.2⟩) ?_;rintro _ gG ⟨rfl,b1⟩;refine jV (Bv rfl rfl rfl) ?_;refine jG ?_;refine jJ func3 ?_;replace hL:=(((hL.keep bU ab).ext aZ).keep b0 (fun q_ hq_=>by simp only[one]at hq_;subst hq_;have:=hLs;omega)).ext b1;replace a2:=((a2.ext aZ).keepO b0 (Ab ei)).ext b1;replace hCp:=((hCp.ext aZ).keepO b0 (Ab ej)).ext b1;replace a5:=((a5.ext aZ).kp b0).ext b1;replace K0:=((K0.ext aZ).n1 b0).ext b1;replace a0:=a0.ext b1;replace a1:=a1.ext b1;replace hO_:=hO_.ext b1;exact⟨_,rfl,rfl,K0⟩
   ·intro hc35
    refine jG ?_;refine jR<|jC (Pa vc p.v sc p.s _ a1 hCp hcok (hcs p hpm).2.1) ?_;rintro _ gH ⟨c8,rfl,a6,gI,cE,bv⟩;have cZ:=Ap cE a0.lt;have cm:=Ao cE a2.own_lt;clear cE;have hjok8:=Jv hcok.ent (hcs p hpm).2.1.ent a6;refine jG ?_;refine jR<|jA ?_;intro en gJ b2 a7 b3;replace a0:=a0.ext bv;have gK:=Ai a0.lt b2;replace a5:=a5.ext bv;have gL:=Ai a5.lt b2;replace a1:=a1.ext bv;have ep:=Al a1.own_lt b2;replace a2:=a2.ext bv;have c9:=Al a2.own_lt b2;replace hCp:=hCp.ext bv;have er:=Al hCp.own_lt b2;have es:=Al a6.own_lt b2;replace K0:=K0.ext bv;have:=Nat.le_trans K0.size b2;clear b2;refine jR<|jS a7 ?_;intro gM a7 b4;refine FJ ?_;refine jV (Bo (b:=true) rfl) ?_;refine jG ?_;refine jV (AJ (b:=false) (e:=false) rfl rfl rfl) ?_;refine jG ?_;refine Aj.condF rfl ?_;refine jG ?_;refine jR<|jC (Iq key _ Zo) ?_;rintro _ gN ⟨rfl,aF⟩;refine jG ?_;replace hL:=(((hL.ext bv).ext b3).keep b4 (fun q_ hq_=>by simp only[one]at hq_;subst hq_;have:=hLs;omega)).ext aF;replace a0:=((a0.ext b3).kp b4).ext aF;replace a1:=((a1.ext b3).keepO b4 (Ab ep)).ext aF;replace a2:=((a2.ext b3).keepO b4 (Ab c9)).ext aF;replace hCp:=((hCp.ext b3).keepO b4 (Ab er)).ext aF;replace a5:=((a5.ext b3).kp b4).ext aF;replace a6:=((a6.ext b3).keepO b4 (Ab es)).ext aF;replace K0:=((K0.ext b3).n1 b4).ext aF;replace a7:=a7.ext aF;refine jF ?_ ?_
    ·intro hc51
     skip
     have hwhy:Cy ov key p.v=6:=Ef (by simpa using hc51);refine jG ?_;refine jR<|jC (FR p.v p.s _ hCp (hcs p hpm).2.1.ok) ?_;rintro _ gO ⟨et,rfl,d0,gP,d1,aG⟩;have eu:=Ao d1 a2.own_lt;clear d1;replace hL:=hL.ext aG;replace a2:=a2.ext aG;refine jR<|jC (FZ p.v et a2 hL Zo d0.r ⟨hpok.ok,hpok.ent,d0.ent.le_cap⟩ (fun q_ h_=>eu q_ (cart_d q_ h_)) (fun hk_ hc_=>(hJ.app (x:=p.v) Zo hpok.ent hk_ hc_).1)) ?_;rintro _ gQ ⟨cb,cn,cd,b5,d2⟩;obtain⟨gR,ev⟩:∃W_,W_=wV ov p.v:=⟨_,rfl⟩;rw[←ev]at d2;replace a0:=a0.ext aG;replace a1:=a1.ext aG;replace hCp:=hCp.ext aG;replace a5:=a5.ext aG;replace a6:=a6.ext aG;replace a7:=a7.ext aG;replace K0:=K0.ext aG;rcases d2 with⟨hpn,rfl⟩|⟨hpn,gS,rfl,hO_,hA_,hvo_,hg_,hz_⟩
     ·have ew:¬cb ac:=cd.not aa a0.lt
      have ey:∀q_,cb q_→¬By sc vc q_:=cd.apart (Zf a9) a1.own_lt;have ez:∀q_,cb q_→w.heap.size≤q_:=cd.ge a8 K0.size;have eA:∀q_,cb q_→7≤q_:=fun q_ h_=>(cd q_ h_).elim (ab q_) (fun h2_=>Nat.le_trans hLs (Nat.le_trans K0.size h2_));clear cd;refine jG ?_;refine jR<|jA ?_;intro gU gV aH d3 aI;replace a0:=a0.keep b5 aa;have gW:=Ai a0.lt aH;replace a5:=a5.keep b5 bS;have gX:=Ai a5.lt aH;replace a7:=a7.keep b5 c9;have gY:=Ai a7.lt aH;replace a1:=a1.keepO b5 a9;have eB:=Al a1.own_lt aH;replace hCp:=hCp.keepO b5 c7;have eC:=Al hCp.own_lt aH;replace a6:=a6.keepO b5 cm;have eD:=Al a6.own_lt aH;have eE:=Al cn.own_lt aH;replace K0:=K0.new b5 a8;have:=Nat.le_trans K0.size aH;clear aH;refine jR<|jS d3 ?_;intro gZ d3 aJ;refine jG ?_;replace hL:=((hL.keep b5 ab).ext aI).keep aJ (fun q_ hq_=>by simp only[one]at hq_;subst hq_;have:=hLs;omega);replace a0:=(a0.ext aI).kp aJ;replace a1:=(a1.ext aI).keepO aJ (Ab eB);replace hCp:=(hCp.ext aI).keepO aJ (Ab eC);replace a5:=(a5.ext aI).kp aJ;replace a6:=(a6.ext aI).keepO aJ (Ab eD);replace a7:=(a7.ext aI).kp aJ;replace cn:=(cn.ext aI).keepO aJ (Ab eE);replace K0:=(K0.ext aI).n1 aJ;refine jF ?_ ?_
      ·intro hc62
       exact absurd hwhy hc62
      ·intro hc62
       refine jG ?_;refine jF ?_ ?_
       ·intro hc64
        refine jG ?_;refine jV (At (c:=((i+1:Nat):Int)) (An rfl rfl Zo Zo) rfl) ?_;refine jG ?_;refine ih1 (i+1) _ _ ?_ Zo;refine⟨true,vc,sc,EO ov key p.v,Fy pl ov key p.v,cb,⟨rfl,rfl,rfl,rfl,rfl,rfl,rfl,rfl,trivial⟩,K0,hL,a0,a1,cn,aX,(Zf ey),ew,ez,eA,?_,?_,?_⟩
        ·omega
        ·exact hcok
        ·exact hJ.skip hpn
       ·intro hc64
        exact absurd hpn (by simpa using hc64)
     ·rw[hwhy]at hpn;cases hpn
    ·intro hc51
     skip
     have hwhy:Cy ov key p.v=BZ vc p.v:=hJ.why (by simpa using hc51);refine jG ?_;refine jR<|jC (FR p.v p.s _ hCp (hcs p hpm).2.1.ok) ?_;rintro _ h0 ⟨eF,rfl,d4,h3,d5,aK⟩;have eG:=Ao d5 a2.own_lt;clear d5;replace hL:=hL.ext aK;replace a2:=a2.ext aK;refine jR<|jC (FZ p.v eF a2 hL Zo d4.r ⟨hpok.ok,hpok.ent,d4.ent.le_cap⟩ (fun q_ h_=>eG q_ (cart_d q_ h_)) (fun hk_ hc_=>(hJ.app (x:=p.v) Zo hpok.ent hk_ hc_).1)) ?_;rintro _ h4 ⟨ai,ad,ag,ae,d6⟩;obtain⟨d7,d8⟩:∃W_,W_=wV ov p.v:=⟨_,rfl⟩;rw[←d8]at d6;replace a0:=a0.ext aK;replace a1:=a1.ext aK;replace hCp:=hCp.ext aK;replace a5:=a5.ext aK;replace a6:=a6.ext aK;replace a7:=a7.ext aK;replace K0:=K0.ext aK;rcases d6 with⟨hpn,rfl⟩|⟨hpn,eH,rfl,hO_,hA_,hvo_,hg_,hz_⟩
     ·have eI:¬ai ac:=ag.not aa a0.lt
      have eJ:∀q_,ai q_→¬By sc vc q_:=ag.apart (Zf a9) a1.own_lt;have eK:∀q_,ai q_→w.heap.size≤q_:=ag.ge a8 K0.size;have eL:∀q_,ai q_→7≤q_:=fun q_ h_=>(ag q_ h_).elim (ab q_) (fun h2_=>Nat.le_trans hLs (Nat.le_trans K0.size h2_));clear ag;refine jG ?_;refine jR<|jA ?_;intro h5 h6 aL d9 aM;replace a0:=a0.keep ae aa;have h7:=Ai a0.lt aL;replace a5:=a5.keep ae bS;have h8:=Ai a5.lt aL;replace a7:=a7.keep ae c9;have h9:=Ai a7.lt aL;replace a1:=a1.keepO ae a9;have eM:=Al a1.own_lt aL;replace hCp:=hCp.keepO ae c7;have eN:=Al hCp.own_lt aL;replace a6:=a6.keepO ae cm;have eO:=Al a6.own_lt aL;have eP:=Al ad.own_lt aL;replace K0:=K0.new ae a8;have:=Nat.le_trans K0.size aL;clear aL;refine jR<|jS d9 ?_;intro ha d9 aN;refine jG ?_;replace hL:=((hL.keep ae ab).ext aM).keep aN (fun q_ hq_=>by simp only[one]at hq_;subst hq_;have:=hLs;omega);replace a0:=(a0.ext aM).kp aN;replace a1:=(a1.ext aM).keepO aN (Ab eM);replace hCp:=(hCp.ext aM).keepO aN (Ab eN);replace a5:=(a5.ext aM).kp aN;replace a6:=(a6.ext aM).keepO aN (Ab eO);replace a7:=(a7.ext aM).kp aN;replace ad:=(ad.ext aM).keepO aN (Ab eP);replace K0:=(K0.ext aM).n1 aN;refine jF ?_ ?_
      ·intro hc62
       exact absurd hwhy hc62
      ·intro hc62
       refine jG ?_;refine jF ?_ ?_
       ·intro hc64
        refine jG ?_;refine jV (At (c:=((i+1:Nat):Int)) (An rfl rfl Zo Zo) rfl) ?_;refine jG ?_;refine ih1 (i+1) _ _ ?_ Zo;refine⟨true,vc,sc,EO ov key p.v,Fy pl ov key p.v,ai,⟨rfl,rfl,rfl,rfl,rfl,rfl,rfl,rfl,trivial⟩,K0,hL,a0,a1,ad,aX,(Zf eJ),eI,eK,eL,?_,?_,?_⟩
        ·omega
        ·exact hcok
        ·exact hJ.skip hpn
       ·intro hc64
        exact absurd hpn (by simpa using hc64)
     ·have an:=hO_
      have hgo_:=hg_;have hzo_:=hz_;clear hO_ hg_ hz_;have eQ:=Ap hgo_ a0.lt;have da:=hzo_;clear hgo_ hzo_ hA_;have co:¬ai ac:=ag.not aa a0.lt;have cF:∀q_,ai q_→¬By sc vc q_:=ag.apart (Zf a9) a1.own_lt;have cG:∀q_,ai q_→¬By p.s p.v q_:=ag.apart (Zf c7) hCp.own_lt;have db:¬ai ed:=ag.not bS a5.lt;have cH:∀q_,ai q_→¬Dn c8 q_:=ag.apart (Zf cm) a6.own_lt;have dc:¬ai en:=ag.not c9 a7.lt;have cI:∀q_,ai q_→w.heap.size≤q_:=ag.ge a8 K0.size;have cJ:∀q_,ai q_→7≤q_:=fun q_ h_=>(ag q_ h_).elim (ab q_) (fun h2_=>Nat.le_trans hLs (Nat.le_trans K0.size h2_));clear ag;have hov_W_165:=hvo_;clear hvo_;have hnx:=hJ.next hpu hpn;have hJ2:=hJ.step Zo hpu hpok.ent hpn;have hag:=hJ.again hpu hpn;rw[T0]at hnx hJ2 hag;have hO1:EO ov key p.v=some (AD vc p.v):=hnx.2.2.1;rw[hO1]at hJ2 ad;have hW1:d7=(AD vc p.v):=d8.trans hnx.2.2.2;refine jG ?_;refine jR<|jA ?_;intro hb hc av aO aw;replace a0:=a0.keep ae aa;have hd:=Ai a0.lt av;replace a5:=a5.keep ae bS;have he:=Ai a5.lt av;replace a7:=a7.keep ae c9;have hf:=Ai a7.lt av;replace a1:=a1.keepO ae a9;have eR:=Al a1.own_lt av;replace hCp:=hCp.keepO ae c7;have eS:=Al hCp.own_lt av;replace a6:=a6.keepO ae cm;have eT:=Al a6.own_lt av;have cK:=Al ad.own_lt av;have eU:=Al an.own_lt av;replace K0:=K0.new ae a8;have:=Nat.le_trans K0.size av;clear av;refine jR<|jS aO ?_;intro hh aO ax;refine jG ?_;replace hL:=((hL.keep ae ab).ext aw).keep ax (fun q_ hq_=>by simp only[one]at hq_;subst hq_;have:=hLs;omega);replace a0:=(a0.ext aw).kp ax;replace a1:=(a1.ext aw).keepO ax (Ab eR);replace hCp:=(hCp.ext aw).keepO ax (Ab eS);replace a5:=(a5.ext aw).kp ax;replace a6:=(a6.ext aw).keepO ax (Ab eT);replace a7:=(a7.ext aw).kp ax;replace ad:=(ad.ext aw).keepO ax (Ab cK);replace an:=(an.ext aw).keepO ax (Ab eU);replace K0:=(K0.ext aw).n1 ax;refine jF ?_ ?_
      ·intro hc62
       exact absurd (hpn.symm.trans hwhy) hc62
      ·intro hc62
       refine jG ?_;refine Aj.condF rfl ?_;refine jG ?_;refine jR<|jS a0 ?_;intro hj a0 ay;refine jG ?_;replace hL:=hL.keep ay (fun q_ hq_=>by simp only[one]at hq_;subst hq_;have:=hLs;omega);replace ad:=ad.keepO ay (Ab co);refine jR<|jC (Hm ad hL) ?_;rintro _ hk ⟨rfl,dd,az⟩;replace ad:=dd;clear dd;replace a5:=(a5.kp ay).keep az db;refine jG ?_;replace hCp:=(hCp.keepO ay (Ab eb)).keepO az (Zf cG);refine jR<|jC (FR p.v p.s _ hCp (hcs p hpm).2.1.ok) ?_;rintro _ hm ⟨eV,rfl,de,hn,df,ao⟩;have eW:=Ao df ad.own_lt;clear df;replace hL:=(hL.keep az cJ).ext ao;replace ad:=ad.ext ao;refine jR<|jC (FZ p.v eV ad hL Zo de.r ⟨hpok.ok,hpok.ent,de.ent.le_cap⟩ (fun q_ h_=>eW q_ (cart_d q_ h_)) (fun hk_ hc_=>(hJ2.app (x:=p.v) Zo hpok.ent hk_ hc_).1)) ?_;rintro _ ho ⟨bw,bx,bz,aA,dg⟩;obtain⟨dh,di⟩:∃W_,W_=wV (some (AD vc p.v)) p.v:=⟨_,rfl⟩;rw[←di]at dg;replace a1:=((a1.keepO ay (Ab aX)).keepO az (Zf cF)).ext ao;replace a6:=((a6.keepO ay (Ab cZ)).keepO az (Zf cH)).ext ao;replace a7:=((a7.kp ay).keep az dc).ext ao;replace an:=((an.keepO ay (Ab eQ)).keepO az da).ext ao;replace aO:=((aO.kp ay).keep az cK).ext ao;replace K0:=((K0.n1 ay).new az cI).ext ao;replace a0:=(a0.keep az co).ext ao;replace hCp:=hCp.ext ao;replace a5:=a5.ext ao;rcases dg with⟨hpn,rfl⟩|⟨hpn,eX,rfl,hO_,hA_,hvo_,hg_,hz_⟩
       ·exact absurd hag.1 hpn
       ·have cp:=hO_
        have hgo_:=hg_;have hzo_:=hz_;clear hO_ hg_ hz_;have hp:=hzo_;clear hgo_ hzo_ hA_;have dj:¬bw ac:=bz.not co a0.lt;have eY:∀q_,bw q_→¬By sc vc q_:=bz.apart cF a1.own_lt;have eZ:∀q_,bw q_→¬By p.s p.v q_:=bz.apart cG hCp.own_lt;have dk:∀q_,bw q_→¬Dn c8 q_:=bz.apart cH a6.own_lt;have dl:∀q_,bw q_→w.heap.size≤q_:=bz.ge cI K0.size;have dm:∀q_,bw q_→7≤q_:=fun q_ h_=>(bz q_ h_).elim (cJ q_) (fun h2_=>Nat.le_trans hLs (Nat.le_trans K0.size h2_));clear bz;have hov_W_256:=hvo_;clear hvo_;rw[hag.2.1,hag.2.2.1]at bx;have hW2:Eo dh (AD vc p.v)=true:=by rw[di];exact hag.2.2.2
        refine jG ?_;refine jR<|jA ?_;intro hq hr ak cq aB;replace a0:=a0.keep aA co;have hs:=Ai a0.lt ak;replace a5:=a5.keep aA db;have ht:=Ai a5.lt ak;replace a7:=a7.keep aA dc;have hu:=Ai a7.lt ak;replace aO:=aO.keep aA cK;have hv:=Ai aO.lt ak;replace a1:=a1.keepO aA (Zf cF);have f0:=Al a1.own_lt ak;replace hCp:=hCp.keepO aA (Zf cG);have f1:=Al hCp.own_lt ak;replace a6:=a6.keepO aA (Zf cH);have f2:=Al a6.own_lt ak;replace an:=an.keepO aA da;have f3:=Al an.own_lt ak;have f4:=Al bx.own_lt ak;have f5:=Al cp.own_lt ak;replace K0:=K0.new aA cI;have:=Nat.le_trans K0.size ak;clear ak;refine jR<|jS cq ?_;intro f6 cq aC;replace a0:=(a0.ext aB).kp aC;replace aO:=(aO.ext aB).kp aC;refine jG ?_;replace a6:=(a6.ext aB).keepO aC (Ab f2);replace an:=(an.ext aB).keepO aC (Ab f3);refine jR<|jC (Bq (Ψ:=fun r_ w_=>r_= .bool true∧Aq f6 w_) (CU d7 (AD vc p.v) eH c8 _ an.r a6.r hov_W_165) fun _ _ h_=>⟨h_.1.trans (congrArg Value.bool (Dr hW1)),h_.2⟩) ?_;rintro _ f7 ⟨rfl,aP⟩;refine jV (Bo (b:=true) rfl) ?_;refine jG ?_;refine jV (Dh rfl rfl rfl) ?_;replace a0:=a0.ext aP;replace cq:=cq.ext aP;refine jG ?_;replace cp:=((cp.ext aB).keepO aC (Ab f5)).ext aP;replace a6:=a6.ext aP;refine jT<|jC (Bq (Ψ:=fun r_ w_=>r_= .bool true∧Aq f7 w_) (CU dh (AD vc p.v) eX c8 _ cp.r a6.r hov_W_256) fun _ _ h_=>⟨h_.1.trans (congrArg Value.bool hW2),h_.2⟩) ?_;rintro _ hw ⟨rfl,bA⟩;refine jT<|jO (Bo (b:=true) rfl) ?_;refine jV (Dh rfl rfl rfl) ?_;refine jG ?_;replace hL:=((((hL.keep aA cJ).ext aB).keep aC (fun q_ hq_=>by simp only[one]at hq_;subst hq_;have:=hLs;omega)).ext aP).ext bA;replace bx:=(((bx.ext aB).keepO aC (Ab f4)).ext aP).ext bA;refine jT<|jC (Hm bx hL) ?_;rintro _ hy ⟨rfl,dn,bV⟩;replace bx:=dn;clear dn;refine Ex ?_;refine jT<|jO (CW (IB rfl rfl) Zs) ?_;refine jV (Dh rfl rfl rfl) ?_;refine jG ?_;refine Aj.condF rfl ?_;refine jG ?_;refine jV (At (c:=((i+1:Nat):Int)) (An rfl rfl Zo Zo) rfl) ?_;refine jG ?_;replace a6:=(a6.ext bA).keepO bV (Zf dk);have f8:=a6.r;refine ih1 (i+1) _ _ ?_ Zo;replace a1:=((((a1.ext aB).keepO aC (Ab f0)).ext aP).ext bA).keepO bV (Zf eY);replace hCp:=((((hCp.ext aB).keepO aC (Ab f1)).ext aP).ext bA).keepO bV (Zf eZ);replace K0:=((((K0.ext aB).n1 aC).ext aP).ext bA).new bV dl;replace a0:=(a0.ext bA).keep bV dj;replace hL:=hL.keep bV dm;refine⟨true,(AD vc p.v),c8,some (AD vc p.v),Fy pl ov key p.v,bw,⟨rfl,rfl,rfl,rfl,rfl,rfl,rfl,rfl,trivial⟩,K0,hL,a0,f8,bx,(fun h_=>cZ (cart_d _ h_)),(fun q_ h_=>(Zf dk) q_ (cart_d q_ h_)),dj,dl,dm,?_,?_,?_⟩
        ·omega
        ·exact hjok8
        ·exact hJ2
  ·intro hc30
   refine jG ?_;refine jR<|jC (Lu a2 hL) ?_;rintro _ hz ⟨dp,cr,f9⟩;rcases f9 with⟨hg0,rfl⟩|⟨gv,hgv,s1,rfl,hO_,hA_,hg_,hok_⟩
   ·rw[(hJ.yes rfl).1]at hg0;cases hg0
   ·have hA:=Ap hg_ a0.lt
    replace a2:=dp;clear dp;have hgo_:=hok_.ok;refine jG ?_;refine jR<|jA ?_;intro hB hD bW dq bX;replace a0:=a0.keep cr aa;have hE:=Ai a0.lt bW;replace a1:=a1.keepO cr a9;have fa:=Al a1.own_lt bW;have fb:=Al a2.own_lt bW;have fc:=Al hO_.own_lt bW;replace K0:=K0.new cr a8;have:=Nat.le_trans K0.size bW;clear bW;refine jR<|jS dq ?_;intro fd dq bY;refine jG ?_;refine jV (Cq (N8 underlying4 rfl rfl) rfl) ?_;replace a0:=(a0.ext bX).kp bY;refine jG ?_;replace a1:=(a1.ext bX).keepO bY (Ab fa);replace hO_:=(hO_.ext bX).keepO bY (Ab fc);refine jT<|jC (Bq (Ψ:=fun r_ w_=>r_= .bool true∧Aq fd w_) (CU gv vc s1 sc _ hO_.r a1 hgo_) fun _ _ h_=>⟨h_.1.trans (congrArg Value.bool (Dr (Option.some.inj (hgv.symm.trans (hJ.yes rfl).1)))),h_.2⟩) ?_;rintro _ hF ⟨rfl,bZ⟩;refine jV (Bv rfl rfl rfl) ?_;refine jG ?_;refine jJ func3 ?_;replace hL:=(((hL.keep cr ab).ext bX).keep bY (fun q_ hq_=>by simp only[one]at hq_;subst hq_;have:=hLs;omega)).ext bZ;replace a2:=((a2.ext bX).keepO bY (Ab fb)).ext bZ;replace K0:=((K0.ext bX).n1 bY).ext bZ;replace a0:=a0.ext bZ;replace a1:=a1.ext bZ;replace hO_:=hO_.ext bZ;exact⟨_,rfl,rfl,K0⟩
 ·obtain rfl:th=false:=by simpa using hth
  refine jG ?_;refine jF ?_ ?_
  ·intro hc30
   refine Ex ?_;obtain⟨hG,hH,x,hx,fe,ce⟩:=hl.eo i;have hc_336_lt:=ce.lt;refine jV (AI underlying22 ty33 rfl rfl fe Zl) ?_;obtain⟨p,hpm,hxe⟩:=SC hx;have hCp:=((hcs p hpm).1.ext K0);have hpok:=(hcs p hpm).2.1;have hpu:=(hcs p hpm).2.2;have hplt:=(hcs p hpm).1.own_lt;have dr:¬By p.s p.v ac:=fun h_=>absurd (hplt _ h_) Zo;have bB:∀q_,By p.s p.v q_→¬Z q_:=fun q_ h_ h2_=>absurd (hplt q_ h_) (Nat.not_lt.2 (a8 q_ h2_));replace ce:=ce.ext K0;refine jV (Gx (v':= .agg #[.slice p.s.ea p.v.ent.length p.s.ec,.slice p.s.ma p.v.mrk.length p.s.mc,.slice p.s.ca p.v.cl.length p.s.cc]) (Dw (v:= .agg #[.slice ((x).entries.a) ((x).entries.len) ((x).entries.cap),.slice (((x).ctx).marks.a) (((x).ctx).marks.len) (((x).ctx).marks.cap),.slice (((x).ctx).cloud.a) (((x).ctx).cloud.len) (((x).ctx).cloud.cap)]) (y:=x) ty33 rfl ce rfl) (by rw[hxe];rfl)) ?_;refine jR<|jA ?_;intro ds hI bC a3 c0;have hK:=Ai a0.lt bC;have hM:=Ai ce.lt bC;have ff:=Al a1.own_lt bC;have b6:=Al a2.own_lt bC;have fg:=Al hCp.own_lt bC;have:=Nat.le_trans K0.size bC;clear bC;refine jG ?_;refine jR<|jS a3 ?_;intro hN a3 c1;refine jG ?_;replace hL:=(hL.ext c0).keep c1 (fun q_ hq_=>by simp only[one]at hq_;subst hq_;have:=hLs;omega);replace a0:=(a0.ext c0).kp c1;replace a1:=(a1.ext c0).keepO c1 (Ab ff);replace a2:=(a2.ext c0).keepO c1 (Ab b6);replace hCp:=(hCp.ext c0).keepO c1 (Ab fg);replace K0:=(K0.ext c0).n1 c1;refine jF ?_ ?_
   ·intro hc35
    refine jG ?_;refine jR<|jC (Lu a2 hL) ?_;rintro _ hO ⟨dt,c2,fh⟩;rcases fh with⟨hg0,rfl⟩|⟨gv,hgv,s1,rfl,hO_,hA_,hg_,hok_⟩
    ·replace hL:=hL.keep c2 ab
     replace a2:=dt;clear dt;refine jG ?_;refine jR<|jA ?_;intro hP hQ bD du bE;replace a0:=a0.keep c2 aa;have hR:=Ai a0.lt bD;replace a3:=a3.keep c2 b6;have hS:=Ai a3.lt bD;replace a1:=a1.keepO c2 a9;have fi:=Al a1.own_lt bD;have fj:=Al a2.own_lt bD;replace hCp:=hCp.keepO c2 bB;have fk:=Al hCp.own_lt bD;replace K0:=K0.new c2 a8;have:=Nat.le_trans K0.size bD;clear bD;refine jR<|jS du ?_;intro fl du bF;refine jG ?_;refine jV (Cq (N8 underlying4 rfl rfl) rfl) ?_;replace a0:=(a0.ext bE).kp bF;refine jG ?_;replace a1:=(a1.ext bE).keepO bF (Ab fi);refine jT<|jC (Bq (Ψ:=fun r_ w_=>r_= .bool true∧Aq fl w_) (CU nilV vc nilS sc _ nil_R.cart a1 nil_ok) fun _ _ h_=>⟨h_.1.trans (congrArg Value.bool (Dr (hJ.no rfl).2.symm)),h_.2⟩) ?_;rintro _ hT ⟨rfl,bG⟩;refine jV (Bv rfl rfl rfl) ?_;refine jG ?_;refine jJ func3 ?_;replace hL:=((hL.ext bE).keep bF (fun q_ hq_=>by simp only[one]at hq_;subst hq_;have:=hLs;omega)).ext bG;replace a2:=((a2.ext bE).keepO bF (Ab fj)).ext bG;replace hCp:=((hCp.ext bE).keepO bF (Ab fk)).ext bG;replace a3:=((a3.ext bE).kp bF).ext bG;replace K0:=((K0.ext bE).n1 bF).ext bG;replace a0:=a0.ext bG;replace a1:=a1.ext bG;exact⟨_,rfl,rfl,K0⟩
    ·rw[(hJ.no rfl).1]at hgv;cases hgv
   ·intro hc35
    refine jG ?_;refine jR<|jC (Pa vc p.v sc p.s _ a1 hCp hcok (hcs p hpm).2.1) ?_;rintro _ hU ⟨hV,rfl,fm,hW,fn,bH⟩;clear fn;have hjok8:=Jv hcok.ent (hcs p hpm).2.1.ent fm;refine jG ?_;refine jR<|jA ?_;intro dv hX bI a4 bJ;replace a0:=a0.ext bH;have hY:=Ai a0.lt bI;replace a3:=a3.ext bH;have hZ:=Ai a3.lt bI;replace a1:=a1.ext bH;have dw:=Al a1.own_lt bI;replace a2:=a2.ext bH;have b7:=Al a2.own_lt bI;replace hCp:=hCp.ext bH;have dx:=Al hCp.own_lt bI;replace K0:=K0.ext bH;have:=Nat.le_trans K0.size bI;clear bI;refine jR<|jS a4 ?_;intro i0 a4 bK;refine FJ ?_;refine jV (Bo (b:=false) rfl) ?_;refine jG ?_;refine jV (Bv rfl rfl rfl) ?_;refine jG ?_;replace hL:=((hL.ext bH).ext bJ).keep bK (fun q_ hq_=>by simp only[one]at hq_;subst hq_;have:=hLs;omega);replace a0:=(a0.ext bJ).kp bK;replace a1:=(a1.ext bJ).keepO bK (Ab dw);replace a2:=(a2.ext bJ).keepO bK (Ab b7);replace hCp:=(hCp.ext bJ).keepO bK (Ab dx);replace a3:=(a3.ext bJ).kp bK;replace K0:=(K0.ext bJ).n1 bK;refine jF ?_ ?_
    ·intro hc47
     skip
     refine jG ?_;refine jR<|jS a4 ?_;intro i1 a4 bL;refine jG ?_;refine jR<|jC (Iq key _ Zo) ?_;rintro _ i2 ⟨rfl,b8⟩;refine jG ?_;replace hL:=(hL.keep bL (fun q_ hq_=>by simp only[one]at hq_;subst hq_;have:=hLs;omega)).ext b8;replace a0:=(a0.kp bL).ext b8;replace a1:=(a1.keepO bL (Ab dw)).ext b8;replace a2:=(a2.keepO bL (Ab b7)).ext b8;replace hCp:=(hCp.keepO bL (Ab dx)).ext b8;replace a3:=(a3.kp bL).ext b8;replace K0:=(K0.n1 bL).ext b8;replace a4:=a4.ext b8;refine jF ?_ ?_
     ·intro hc51
      skip
      have hwhy:Cy ov key p.v=6:=Ef (by simpa using hc51);refine jG ?_;refine jR<|jC (FR p.v p.s _ hCp (hcs p hpm).2.1.ok) ?_;rintro _ i3 ⟨fo,rfl,dy,i4,dz,b9⟩;have fp:=Ao dz a2.own_lt;clear dz;replace hL:=hL.ext b9;replace a2:=a2.ext b9;refine jR<|jC (FZ p.v fo a2 hL Zo dy.r ⟨hpok.ok,hpok.ent,dy.ent.le_cap⟩ (fun q_ h_=>fp q_ (cart_d q_ h_)) (fun hk_ hc_=>(hJ.app (x:=p.v) Zo hpok.ent hk_ hc_).1)) ?_;rintro _ i5 ⟨cf,cs,cg,bM,dA⟩;obtain⟨i6,fq⟩:∃W_,W_=wV ov p.v:=⟨_,rfl⟩;rw[←fq]at dA;replace a0:=a0.ext b9;replace a1:=a1.ext b9;replace hCp:=hCp.ext b9;replace a3:=a3.ext b9;replace a4:=a4.ext b9;replace K0:=K0.ext b9;rcases dA with⟨hpn,rfl⟩|⟨hpn,i7,rfl,hO_,hA_,hvo_,hg_,hz_⟩
      ·have fr:¬cf ac:=cg.not aa a0.lt
       have fs:∀q_,cf q_→¬By sc vc q_:=cg.apart (Zf a9) a1.own_lt;have ft:∀q_,cf q_→w.heap.size≤q_:=cg.ge a8 K0.size;have fu:∀q_,cf q_→7≤q_:=fun q_ h_=>(cg q_ h_).elim (ab q_) (fun h2_=>Nat.le_trans hLs (Nat.le_trans K0.size h2_));clear cg;refine jG ?_;refine jR<|jA ?_;intro i8 i9 ba dB bb;replace a0:=a0.keep bM aa;have ia:=Ai a0.lt ba;replace a3:=a3.keep bM b6;have ib:=Ai a3.lt ba;replace a4:=a4.keep bM b7;have ic:=Ai a4.lt ba;replace a1:=a1.keepO bM a9;have fv:=Al a1.own_lt ba;replace hCp:=hCp.keepO bM bB;have fw:=Al hCp.own_lt ba;have fx:=Al cs.own_lt ba;replace K0:=K0.new bM a8;have:=Nat.le_trans K0.size ba;clear ba;refine jR<|jS dB ?_;intro ie dB bc;refine jG ?_;replace hL:=((hL.keep bM ab).ext bb).keep bc (fun q_ hq_=>by simp only[one]at hq_;subst hq_;have:=hLs;omega);replace a0:=(a0.ext bb).kp bc;replace a1:=(a1.ext bb).keepO bc (Ab fv);replace hCp:=(hCp.ext bb).keepO bc (Ab fw);replace a3:=(a3.ext bb).kp bc;replace a4:=(a4.ext bb).kp bc;replace cs:=(cs.ext bb).keepO bc (Ab fx);replace K0:=(K0.ext bb).n1 bc;refine jF ?_ ?_
       ·intro hc62
        exact absurd hwhy hc62
       ·intro hc62
        refine jG ?_;refine jF ?_ ?_
        ·intro hc64
         refine jG ?_;refine jV (At (c:=((i+1:Nat):Int)) (An rfl rfl Zo Zo) rfl) ?_;refine jG ?_;refine ih1 (i+1) _ _ ?_ Zo;refine⟨false,vc,sc,EO ov key p.v,Fy pl ov key p.v,cf,⟨rfl,rfl,rfl,rfl,rfl,rfl,rfl,rfl,trivial⟩,K0,hL,a0,a1,cs,aX,(Zf fs),fr,ft,fu,?_,?_,?_⟩
         ·omega
         ·exact hcok
         ·exact hJ.skip hpn
        ·intro hc64
         exact absurd hpn (by simpa using hc64)
      ·rw[hwhy]at hpn;cases hpn
     ·intro hc51
      skip
      have hwhy:Cy ov key p.v=BZ vc p.v:=hJ.why (by simpa using hc51);refine jG ?_;refine jR<|jC (FR p.v p.s _ hCp (hcs p hpm).2.1.ok) ?_;rintro _ ig ⟨fy,rfl,dC,ih,dD,be⟩;have fz:=Ao dD a2.own_lt;clear dD;replace hL:=hL.ext be;replace a2:=a2.ext be;refine jR<|jC (FZ p.v fy a2 hL Zo dC.r ⟨hpok.ok,hpok.ent,dC.ent.le_cap⟩ (fun q_ h_=>fz q_ (cart_d q_ h_)) (fun hk_ hc_=>(hJ.app (x:=p.v) Zo hpok.ent hk_ hc_).1)) ?_;rintro _ ii ⟨am,af,aj,ah,dE⟩;obtain⟨dF,dG⟩:∃W_,W_=wV ov p.v:=⟨_,rfl⟩;rw[←dG]at dE;replace a0:=a0.ext be;replace a1:=a1.ext be;replace hCp:=hCp.ext be;replace a3:=a3.ext be;replace a4:=a4.ext be;replace K0:=K0.ext be;rcases dE with⟨hpn,rfl⟩|⟨hpn,fA,rfl,hO_,hA_,hvo_,hg_,hz_⟩
      ·have fB:¬am ac:=aj.not aa a0.lt
       have fC:∀q_,am q_→¬By sc vc q_:=aj.apart (Zf a9) a1.own_lt;have fD:∀q_,am q_→w.heap.size≤q_:=aj.ge a8 K0.size;have fE:∀q_,am q_→7≤q_:=fun q_ h_=>(aj q_ h_).elim (ab q_) (fun h2_=>Nat.le_trans hLs (Nat.le_trans K0.size h2_));clear aj;refine jG ?_;refine jR<|jA ?_;intro ij ik bg dH bh;replace a0:=a0.keep ah aa;have il:=Ai a0.lt bg;replace a3:=a3.keep ah b6;have im:=Ai a3.lt bg;replace a4:=a4.keep ah b7;have io:=Ai a4.lt bg;replace a1:=a1.keepO ah a9;have fF:=Al a1.own_lt bg;replace hCp:=hCp.keepO ah bB;have fG:=Al hCp.own_lt bg;have fH:=Al af.own_lt bg;replace K0:=K0.new ah a8;have:=Nat.le_trans K0.size bg;clear bg;refine jR<|jS dH ?_;intro ip dH bi;refine jG ?_;replace hL:=((hL.keep ah ab).ext bh).keep bi (fun q_ hq_=>by simp only[one]at hq_;subst hq_;have:=hLs;omega);replace a0:=(a0.ext bh).kp bi;replace a1:=(a1.ext bh).keepO bi (Ab fF);replace hCp:=(hCp.ext bh).keepO bi (Ab fG);replace a3:=(a3.ext bh).kp bi;replace a4:=(a4.ext bh).kp bi;replace af:=(af.ext bh).keepO bi (Ab fH);replace K0:=(K0.ext bh).n1 bi;refine jF ?_ ?_
       ·intro hc62
        exact absurd hwhy hc62
       ·intro hc62
        refine jG ?_;refine jF ?_ ?_
        ·intro hc64
         refine jG ?_;refine jV (At (c:=((i+1:Nat):Int)) (An rfl rfl Zo Zo) rfl) ?_;refine jG ?_;refine ih1 (i+1) _ _ ?_ Zo;refine⟨false,vc,sc,EO ov key p.v,Fy pl ov key p.v,am,⟨rfl,rfl,rfl,rfl,rfl,rfl,rfl,rfl,trivial⟩,K0,hL,a0,a1,af,aX,(Zf fC),fB,fD,fE,?_,?_,?_⟩
         ·omega
         ·exact hcok
         ·exact hJ.skip hpn
        ·intro hc64
         exact absurd hpn (by simpa using hc64)
      ·have ap:=hO_
       have hgo_:=hg_;have hzo_:=hz_;clear hO_ hg_ hz_;have fI:=Ap hgo_ a0.lt;have dI:=hzo_;clear hgo_ hzo_ hA_;have ct:¬am ac:=aj.not aa a0.lt;have cL:∀q_,am q_→¬By sc vc q_:=aj.apart (Zf a9) a1.own_lt;have cM:∀q_,am q_→¬By p.s p.v q_:=aj.apart (Zf bB) hCp.own_lt;have cN:¬am ds:=aj.not b6 a3.lt;have cO:¬am dv:=aj.not b7 a4.lt;have cP:∀q_,am q_→w.heap.size≤q_:=aj.ge a8 K0.size;have cQ:∀q_,am q_→7≤q_:=fun q_ h_=>(aj q_ h_).elim (ab q_) (fun h2_=>Nat.le_trans hLs (Nat.le_trans K0.size h2_));clear aj;have hov_W_467:=hvo_;clear hvo_;have hnx:=hJ.next hpu hpn;have hJ2:=hJ.step Zo hpu hpok.ent hpn;have hag:=hJ.again hpu hpn;rw[TZ]at hnx hJ2 hag;have hO1:EO ov key p.v=some p.v:=hnx.2.2.1;rw[hO1]at hJ2 af;have hW1:dF=p.v:=dG.trans hnx.2.2.2;refine jG ?_;refine jR<|jA ?_;intro iq ir aQ aR aS;replace a0:=a0.keep ah aa;have it:=Ai a0.lt aQ;replace a3:=a3.keep ah b6;have iu:=Ai a3.lt aQ;replace a4:=a4.keep ah b7;have iv:=Ai a4.lt aQ;replace a1:=a1.keepO ah a9;have fJ:=Al a1.own_lt aQ;replace hCp:=hCp.keepO ah bB;have fK:=Al hCp.own_lt aQ;have cR:=Al af.own_lt aQ;have fL:=Al ap.own_lt aQ;replace K0:=K0.new ah a8;have:=Nat.le_trans K0.size aQ;clear aQ;refine jR<|jS aR ?_;intro iw aR aT;refine jG ?_;replace hL:=((hL.keep ah ab).ext aS).keep aT (fun q_ hq_=>by simp only[one]at hq_;subst hq_;have:=hLs;omega);replace a0:=(a0.ext aS).kp aT;replace a1:=(a1.ext aS).keepO aT (Ab fJ);replace hCp:=(hCp.ext aS).keepO aT (Ab fK);replace a3:=(a3.ext aS).kp aT;replace a4:=(a4.ext aS).kp aT;replace af:=(af.ext aS).keepO aT (Ab cR);replace ap:=(ap.ext aS).keepO aT (Ab fL);replace K0:=(K0.ext aS).n1 aT;refine jF ?_ ?_
       ·intro hc62
        exact absurd (hpn.symm.trans hwhy) hc62
       ·intro hc62
        refine jG ?_;refine Aj.condF rfl ?_;refine jG ?_;refine jR<|jS a0 ?_;intro ix a0 aU;refine jG ?_;replace hL:=hL.keep aU (fun q_ hq_=>by simp only[one]at hq_;subst hq_;have:=hLs;omega);replace af:=af.keepO aU (Ab ct);refine jR<|jC (Hm af hL) ?_;rintro _ iy ⟨rfl,dJ,aV⟩;replace af:=dJ;clear dJ;replace a3:=(a3.kp aU).keep aV cN;refine jG ?_;replace hCp:=(hCp.keepO aU (Ab dr)).keepO aV (Zf cM);refine jR<|jC (FR p.v p.s _ hCp (hcs p hpm).2.1.ok) ?_;rintro _ iz ⟨fM,rfl,dK,iA,dL,aD⟩;have fN:=Ao dL af.own_lt;clear dL;replace hL:=(hL.keep aV cQ).ext aD;replace af:=af.ext aD;refine jR<|jC (FZ p.v fM af hL Zo dK.r ⟨hpok.ok,hpok.ent,dK.ent.le_cap⟩ (fun q_ h_=>fN q_ (cart_d q_ h_)) (fun hk_ hc_=>(hJ2.app (x:=p.v) Zo hpok.ent hk_ hc_).1)) ?_;rintro _ iB ⟨bj,bN,bk,aW,dM⟩;obtain⟨dN,dO⟩:∃W_,W_=wV (some p.v) p.v:=⟨_,rfl⟩;rw[←dO]at dM;replace a1:=((a1.keepO aU (Ab aX)).keepO aV (Zf cL)).ext aD;replace a4:=((a4.kp aU).keep aV cO).ext aD;replace ap:=((ap.keepO aU (Ab fI)).keepO aV dI).ext aD;replace aR:=((aR.kp aU).keep aV cR).ext aD;replace K0:=((K0.n1 aU).new aV cP).ext aD;replace a0:=(a0.keep aV ct).ext aD;replace hCp:=hCp.ext aD;replace a3:=a3.ext aD;rcases dM with⟨hpn,rfl⟩|⟨hpn,fO,rfl,hO_,hA_,hvo_,hg_,hz_⟩
        ·exact absurd hag.1 hpn
        ·have cu:=hO_
         have hgo_:=hg_;have hzo_:=hz_;clear hO_ hg_ hz_;have iC:=hzo_;clear hgo_ hzo_ hA_;have dP:¬bj ac:=bk.not ct a0.lt;have fP:∀q_,bj q_→¬By sc vc q_:=bk.apart cL a1.own_lt;have dQ:∀q_,bj q_→¬By p.s p.v q_:=bk.apart cM hCp.own_lt;have fQ:¬bj ds:=bk.not cN a3.lt;have fR:¬bj dv:=bk.not cO a4.lt;have dR:∀q_,bj q_→w.heap.size≤q_:=bk.ge cP K0.size;have dS:∀q_,bj q_→7≤q_:=fun q_ h_=>(bk q_ h_).elim (cQ q_) (fun h2_=>Nat.le_trans hLs (Nat.le_trans K0.size h2_));clear bk;have hov_W_558:=hvo_;clear hvo_;rw[hag.2.1,hag.2.2.1]at bN;have hW2:Eo dN p.v=true:=by rw[dO];exact hag.2.2.2
         refine jG ?_;refine jR<|jA ?_;intro iD iE aq cv ar;replace a0:=a0.keep aW ct;have iF:=Ai a0.lt aq;replace a3:=a3.keep aW cN;have iG:=Ai a3.lt aq;replace a4:=a4.keep aW cO;have iH:=Ai a4.lt aq;replace aR:=aR.keep aW cR;have iI:=Ai aR.lt aq;replace a1:=a1.keepO aW (Zf cL);have fS:=Al a1.own_lt aq;replace hCp:=hCp.keepO aW (Zf cM);have fT:=Al hCp.own_lt aq;replace ap:=ap.keepO aW dI;have fU:=Al ap.own_lt aq;have fV:=Al bN.own_lt aq;have fW:=Al cu.own_lt aq;replace K0:=K0.new aW cP;have:=Nat.le_trans K0.size aq;clear aq;refine jR<|jS cv ?_;intro fX cv au;replace a0:=(a0.ext ar).kp au;replace aR:=(aR.ext ar).kp au;refine jG ?_;replace hCp:=(hCp.ext ar).keepO au (Ab fT);replace ap:=(ap.ext ar).keepO au (Ab fU);refine jR<|jC (Bq (Ψ:=fun r_ w_=>r_= .bool true∧Aq fX w_) (CU dF p.v fA p.s _ ap.r hCp hov_W_467) fun _ _ h_=>⟨h_.1.trans (congrArg Value.bool (Dr hW1)),h_.2⟩) ?_;rintro _ fY ⟨rfl,aE⟩;refine jV (Bo (b:=true) rfl) ?_;refine jG ?_;refine jV (Dh rfl rfl rfl) ?_;replace a0:=a0.ext aE;replace cv:=cv.ext aE;refine jG ?_;replace cu:=((cu.ext ar).keepO au (Ab fW)).ext aE;replace hCp:=hCp.ext aE;refine jT<|jC (Bq (Ψ:=fun r_ w_=>r_= .bool true∧Aq fY w_) (CU dN p.v fO p.s _ cu.r hCp hov_W_558) fun _ _ h_=>⟨h_.1.trans (congrArg Value.bool hW2),h_.2⟩) ?_;rintro _ iJ ⟨rfl,bl⟩;refine jT<|jO (Bo (b:=true) rfl) ?_;refine jV (Dh rfl rfl rfl) ?_;refine jG ?_;replace hL:=((((hL.keep aW cQ).ext ar).keep au (fun q_ hq_=>by simp only[one]at hq_;subst hq_;have:=hLs;omega)).ext aE).ext bl;replace bN:=(((bN.ext ar).keepO au (Ab fV)).ext aE).ext bl;refine jT<|jC (Hm bN hL) ?_;rintro _ iK ⟨rfl,dT,bO⟩;replace bN:=dT;clear dT;refine Ex ?_;refine jT<|jO (CW (IB rfl rfl) Zs) ?_;refine jV (Dh rfl rfl rfl) ?_;refine jG ?_;refine Aj.condF rfl ?_;refine jG ?_;refine jV (At (c:=((i+1:Nat):Int)) (An rfl rfl Zo Zo) rfl) ?_;refine jG ?_;refine ih1 (i+1) _ _ ?_ Zo;replace a1:=((((a1.ext ar).keepO au (Ab fS)).ext aE).ext bl).keepO bO (Zf fP);replace a3:=((((a3.ext ar).kp au).ext aE).ext bl).keep bO fQ;replace a4:=((((a4.ext ar).kp au).ext aE).ext bl).keep bO fR;replace K0:=((((K0.ext ar).n1 au).ext aE).ext bl).new bO dR;replace a0:=(a0.ext bl).keep bO dP;replace hCp:=(hCp.ext bl).keepO bO (Zf dQ);replace hL:=hL.keep bO dS;refine⟨true,p.v,p.s,some p.v,Fy pl ov key p.v,bj,⟨rfl,rfl,rfl,rfl,rfl,rfl,rfl,rfl,trivial⟩,K0,hL,a0,hCp,bN,dr,(Zf dQ),dP,dR,dS,?_,?_,?_⟩
         ·omega
         ·exact hpok
         ·exact hJ2
    ·intro hc47
     skip
     refine jG ?_;refine jR<|jC (Iq key _ Zo) ?_;rintro _ iL ⟨rfl,bm⟩;refine jG ?_;replace hL:=hL.ext bm;replace a0:=a0.ext bm;replace a1:=a1.ext bm;replace a2:=a2.ext bm;replace hCp:=hCp.ext bm;replace a3:=a3.ext bm;replace a4:=a4.ext bm;replace K0:=K0.ext bm;refine jF ?_ ?_
     ·intro hc51
      skip
      have hwhy:Cy ov key p.v=6:=Ef (by simpa using hc51);refine jG ?_;refine jR<|jC (FR p.v p.s _ hCp (hcs p hpm).2.1.ok) ?_;rintro _ iM ⟨fZ,rfl,dU,iN,dV,bn⟩;have g0:=Ao dV a2.own_lt;clear dV;replace hL:=hL.ext bn;replace a2:=a2.ext bn;refine jR<|jC (FZ p.v fZ a2 hL Zo dU.r ⟨hpok.ok,hpok.ent,dU.ent.le_cap⟩ (fun q_ h_=>g0 q_ (cart_d q_ h_)) (fun hk_ hc_=>(hJ.app (x:=p.v) Zo hpok.ent hk_ hc_).1)) ?_;rintro _ iO ⟨ch,cw,ci,bP,dW⟩;obtain⟨iP,g1⟩:∃W_,W_=wV ov p.v:=⟨_,rfl⟩;rw[←g1]at dW;replace a0:=a0.ext bn;replace a1:=a1.ext bn;replace hCp:=hCp.ext bn;replace a3:=a3.ext bn;replace a4:=a4.ext bn;replace K0:=K0.ext bn;rcases dW with⟨hpn,rfl⟩|⟨hpn,iQ,rfl,hO_,hA_,hvo_,hg_,hz_⟩
      ·have g2:¬ch ac:=ci.not aa a0.lt
       have g3:∀q_,ch q_→¬By sc vc q_:=ci.apart (Zf a9) a1.own_lt;have g4:∀q_,ch q_→w.heap.size≤q_:=ci.ge a8 K0.size;have g5:∀q_,ch q_→7≤q_:=fun q_ h_=>(ci q_ h_).elim (ab q_) (fun h2_=>Nat.le_trans hLs (Nat.le_trans K0.size h2_));clear ci;refine jG ?_;refine jR<|jA ?_;intro iR iS bo dX bp;replace a0:=a0.keep bP aa;have iT:=Ai a0.lt bo;replace a3:=a3.keep bP b6;have iU:=Ai a3.lt bo;replace a4:=a4.keep bP b7;have iV:=Ai a4.lt bo;replace a1:=a1.keepO bP a9;have g6:=Al a1.own_lt bo;replace hCp:=hCp.keepO bP bB;have g7:=Al hCp.own_lt bo;have g8:=Al cw.own_lt bo;replace K0:=K0.new bP a8;have:=Nat.le_trans K0.size bo;clear bo;refine jR<|jS dX ?_;intro iW dX bq;refine jG ?_;replace hL:=((hL.keep bP ab).ext bp).keep bq (fun q_ hq_=>by simp only[one]at hq_;subst hq_;have:=hLs;omega);replace a0:=(a0.ext bp).kp bq;replace a1:=(a1.ext bp).keepO bq (Ab g6);replace hCp:=(hCp.ext bp).keepO bq (Ab g7);replace a3:=(a3.ext bp).kp bq;replace a4:=(a4.ext bp).kp bq;replace cw:=(cw.ext bp).keepO bq (Ab g8);replace K0:=(K0.ext bp).n1 bq;refine jF ?_ ?_
       ·intro hc62
        exact absurd hwhy hc62
       ·intro hc62
        refine jG ?_;refine jF ?_ ?_
        ·intro hc64
         refine jG ?_;refine jV (At (c:=((i+1:Nat):Int)) (An rfl rfl Zo Zo) rfl) ?_;refine jG ?_;refine ih1 (i+1) _ _ ?_ Zo;refine⟨false,vc,sc,EO ov key p.v,Fy pl ov key p.v,ch,⟨rfl,rfl,rfl,rfl,rfl,rfl,rfl,rfl,trivial⟩,K0,hL,a0,a1,cw,aX,(Zf g3),g2,g4,g5,?_,?_,?_⟩
         ·omega
         ·exact hcok
         ·exact hJ.skip hpn
        ·intro hc64
         exact absurd hpn (by simpa using hc64)
      ·rw[hwhy]at hpn;cases hpn
     ·intro hc51
      skip
      have hwhy:Cy ov key p.v=BZ vc p.v:=hJ.why (by simpa using hc51);refine jG ?_;refine jR<|jC (FR p.v p.s _ hCp (hcs p hpm).2.1.ok) ?_;rintro _ iX ⟨g9,rfl,dY,iY,dZ,bs⟩;have ga:=Ao dZ a2.own_lt;clear dZ;replace hL:=hL.ext bs;replace a2:=a2.ext bs;refine jR<|jC (FZ p.v g9 a2 hL Zo dY.r ⟨hpok.ok,hpok.ent,dY.ent.le_cap⟩ (fun q_ h_=>ga q_ (cart_d q_ h_)) (fun hk_ hc_=>(hJ.app (x:=p.v) Zo hpok.ent hk_ hc_).1)) ?_;rintro _ iZ ⟨cj,cx,ck,bQ,e0⟩;obtain⟨j0,gb⟩:∃W_,W_=wV ov p.v:=⟨_,rfl⟩;rw[←gb]at e0;replace a0:=a0.ext bs;replace a1:=a1.ext bs;replace hCp:=hCp.ext bs;replace a3:=a3.ext bs;replace a4:=a4.ext bs;replace K0:=K0.ext bs;rcases e0 with⟨hpn,rfl⟩|⟨hpn,j1,rfl,hO_,hA_,hvo_,hg_,hz_⟩
      ·have gc:¬cj ac:=ck.not aa a0.lt
       have gd:∀q_,cj q_→¬By sc vc q_:=ck.apart (Zf a9) a1.own_lt;have gf:∀q_,cj q_→w.heap.size≤q_:=ck.ge a8 K0.size;have gg:∀q_,cj q_→7≤q_:=fun q_ h_=>(ck q_ h_).elim (ab q_) (fun h2_=>Nat.le_trans hLs (Nat.le_trans K0.size h2_));clear ck;refine jG ?_;refine jR<|jA ?_;intro j2 j3 bt e1 c3;replace a0:=a0.keep bQ aa;have j4:=Ai a0.lt bt;replace a3:=a3.keep bQ b6;have j5:=Ai a3.lt bt;replace a4:=a4.keep bQ b7;have j6:=Ai a4.lt bt;replace a1:=a1.keepO bQ a9;have gh:=Al a1.own_lt bt;replace hCp:=hCp.keepO bQ bB;have gi:=Al hCp.own_lt bt;have gj:=Al cx.own_lt bt;replace K0:=K0.new bQ a8;have:=Nat.le_trans K0.size bt;clear bt;refine jR<|jS e1 ?_;intro j7 e1 c4;refine jG ?_;replace hL:=((hL.keep bQ ab).ext c3).keep c4 (fun q_ hq_=>by simp only[one]at hq_;subst hq_;have:=hLs;omega);replace a0:=(a0.ext c3).kp c4;replace a1:=(a1.ext c3).keepO c4 (Ab gh);replace hCp:=(hCp.ext c3).keepO c4 (Ab gi);replace cx:=(cx.ext c3).keepO c4 (Ab gj);replace K0:=(K0.ext c3).n1 c4;refine jF ?_ ?_
       ·intro hc62
        exact absurd hwhy hc62
       ·intro hc62
        refine jG ?_;refine jF ?_ ?_
        ·intro hc64
         refine jG ?_;refine jV (At (c:=((i+1:Nat):Int)) (An rfl rfl Zo Zo) rfl) ?_;refine jG ?_;refine ih1 (i+1) _ _ ?_ Zo;refine⟨false,vc,sc,EO ov key p.v,Fy pl ov key p.v,cj,⟨rfl,rfl,rfl,rfl,rfl,rfl,rfl,rfl,trivial⟩,K0,hL,a0,a1,cx,aX,(Zf gd),gc,gf,gg,?_,?_,?_⟩
         ·omega
         ·exact hcok
         ·exact hJ.skip hpn
        ·intro hc64
         exact absurd hpn (by simpa using hc64)
      ·exact absurd (hwhy.symm.trans hpn) hc47
  ·intro hc30
   refine jG ?_;refine jR<|jC (Lu a2 hL) ?_;rintro _ j8 ⟨e2,cy,gk⟩;rcases gk with⟨hg0,rfl⟩|⟨gv,hgv,s1,rfl,hO_,hA_,hg_,hok_⟩
   ·replace hL:=hL.keep cy ab
    replace a2:=e2;clear e2;refine jG ?_;refine jR<|jA ?_;intro j9 ja cz e3 cA;replace a0:=a0.keep cy aa;have jc:=Ai a0.lt cz;replace a1:=a1.keepO cy a9;have gl:=Al a1.own_lt cz;replace K0:=K0.new cy a8;have:=Nat.le_trans K0.size cz;clear cz;refine jR<|jS e3 ?_;intro gm e3 cB;refine jG ?_;refine jV (Cq (N8 underlying4 rfl rfl) rfl) ?_;replace a0:=(a0.ext cA).kp cB;refine jG ?_;replace a1:=(a1.ext cA).keepO cB (Ab gl);refine jT<|jC (Bq (Ψ:=fun r_ w_=>r_= .bool true∧Aq gm w_) (CU nilV vc nilS sc _ nil_R.cart a1 nil_ok) fun _ _ h_=>⟨h_.1.trans (congrArg Value.bool (Dr (hJ.no rfl).2.symm)),h_.2⟩) ?_;rintro _ jd ⟨rfl,e4⟩;refine jV (Bv rfl rfl rfl) ?_;refine jG ?_;refine jJ func3 ?_;replace hL:=((hL.ext cA).keep cB (fun q_ hq_=>by simp only[one]at hq_;subst hq_;have:=hLs;omega)).ext e4;replace K0:=((K0.ext cA).n1 cB).ext e4;exact⟨_,rfl,rfl,K0⟩
   ·rw[(hJ.no rfl).1]at hgv;cases hgv
end Go.Proofs.YtjkaicjmfgekjaaGreatDoor
