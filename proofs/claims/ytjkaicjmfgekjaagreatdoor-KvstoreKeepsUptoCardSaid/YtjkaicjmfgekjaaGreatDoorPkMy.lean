/-
  My, Mz, Na, Nb
-/
import Derived.Test.YtjkaicjmfgekjaaGreatDoorPkMr
import Derived.Test.YtjkaicjmfgekjaaGreatDoorPkYield
set_option linter.all false
set_option maxRecDepth 100000
set_option maxHeartbeats 4000000
namespace Go.Proofs.YtjkaicjmfgekjaaGreatDoor
open Go.Proofs.Tryz
attribute [local irreducible] RD RS AA RL RA RT Cz Ai AC DQ Cp BH Bz B4 Cb D4 Cj itemsN BW AO Br BK Gr AP A4 Ar Ck As A1 Ay A5 EM AW AK Cy setM Ax Ao
section
def O8 (a b:AH):Prop:=a.owner<b.owner∨(a.owner=b.owner∧a.key.data.toList<b.key.data.toList)
def Te (a b:AH):Int:=if a.owner=b.owner then Lib.compareBytes a.key.data.toList b.key.data.toList else a.owner-b.owner
instance (a b:AH):Decidable (O8 a b):=by unfold O8;infer_instance
theorem GG {a b:AH}:Te a b<0↔O8 a b:=by
 unfold Te O8
 split
 ·rename_i h;rw[cmpB_lt];constructor
  ·intro k;exact .inr ⟨h,k⟩
  ·rintro(k|⟨-,k⟩)
   ·omega
   ·exact k
 ·rename_i h;constructor
  ·intro k;exact .inl Zo
  ·rintro(k|⟨k,-⟩)
   ·omega
   ·exact absurd k h
theorem Nq (a:AH):¬O8 a a:=by
 rintro(h|⟨-,h⟩)
 ·omega
 ·exact Rf _ h
theorem Gs {a b c:AH}(h:O8 a b)(k:O8 b c):O8 a c:=by
 rcases h with h|⟨h1,h2⟩<;>rcases k with k|⟨k1,k2⟩
 ·exact .inl Zo
 ·exact .inl Zo
 ·exact .inl Zo
 ·exact .inr ⟨h1.trans k1,ltL_trans h2 k2⟩
theorem J4 {a b:AH}(h:¬O8 a b)(k:¬O8 b a):a=b:=by
 have e1:a.owner=b.owner:=by
  have h1:¬a.owner<b.owner:=fun e=>h (.inl e)
  have h2:¬b.owner<a.owner:=fun e=>k (.inl e)
  omega
 have e2:a.key=b.key:=K3.1 (Rg (fun e=>h (.inr ⟨e1,e⟩)) (fun e=>k (.inr ⟨e1.symm,e⟩)))
 exact AH.ext' e1 e2
def Qf (a:AH):Prop:=0<=a.owner∧a.owner<8
instance : Inhabited {x:AH//Qf x}:=⟨⟨⟨0,⟨#[]⟩⟩,by unfold Qf;decide⟩⟩
def Zj (a b:AH):Bool:= !decide (O8 b a)
def FL (l:List AH):List AH:=l.mergeSort Zj
theorem Fx {l:List AH}:(FL l).Perm l:=List.mergeSort_perm _ _
theorem Qg {l:List AH}(hn:l.Nodup):(FL l).Pairwise O8:=by
 have h1:(FL l).Pairwise fun a b=>Zj a b=true:=by
  refine List.pairwise_mergeSort (fun a b c h k=> ?_) (fun a b=> ?_) l
  ·simp only[Zj,AaO,decide_eq_false_iff_not]at h k⊢
   intro e
   by_cases c1:O8 a b
   ·exact k (Gs e c1)
   ·have:=J4 c1 h;subst this;exact k e
  ·simp only[Zj,AbD,AaO,decide_eq_false_iff_not]
   by_cases c:O8 b a
   ·exact .inr fun e=>Nq _ (Gs c e)
   ·exact .inl c
 have h2:(FL l).Nodup:=Fx.nodup_iff.2 hn
 refine(List.Pairwise.and h1 h2).imp fun{a b} h=> ?_
 obtain⟨h,hne⟩:=h
 simp only[Zj,AaO,decide_eq_false_iff_not]at h
 exact Decidable.byContradiction fun c=>hne (J4 c h)
theorem RE {α : Type} {r : α -> α -> Prop} (irr : ∀ a, ¬ r a a) (tr : ∀ {a b c}, r a b -> r b c -> r a c) : ∀ {l k : List α}, l.Pairwise r -> k.Pairwise r -> (∀ x, x ∈ l ↔ x ∈ k) -> l = k
  | [], [], _, _, _ => rfl
  | [], b :: k, _, _, h => by have := (h b).2 AaU; cases this
  | a :: l, [], _, _, h => by have := (h a).1 AaU; cases this
  | a :: l, b :: k, hl, hk, h => by
    rw [Aav] at hl hk
    have e : a = b := by
      rcases List.mem_cons.1 ((h a).1 AaU) with e | ha
      · exact e
      · rcases List.mem_cons.1 ((h b).2 AaU) with e | hb
        · exact e.symm
        · exact absurd (tr (hl.1 b hb) (hk.1 a ha)) (irr _)
    subst e
    congr 1
    refine RE irr tr hl.2 hk.2 fun x => ?_
    constructor
    · intro hx
      rcases List.mem_cons.1 ((h x).1 (AaB _ hx)) with e | hx2
      · subst e; exact absurd (hl.1 _ hx) (irr _)
      · exact hx2
    · intro hx
      rcases List.mem_cons.1 ((h x).2 (AaB _ hx)) with e | hx2
      · subst e; exact absurd (hk.1 _ hx) (irr _)
      · exact hx2
def Hv (s:KF)(hs:List AH):Prop:=hs.Pairwise O8∧∀x,x∈hs↔s.h x
theorem Hv.eq {s s':KF}{l k:List AH}(h:Hv s l)(h':Hv s' k)(e:s.h=s'.h):l=k:=
 RE Nq Gs h.1 h'.1 fun x=>by rw[h.2,h'.2,e]
theorem Qh {s:KF}{l:List AH}(hn:l.Nodup)(h:∀x,x∈l↔s.h x):Hv s (FL l):=⟨Qg hn,fun x=>Fx.mem_iff.trans (h x)⟩
end
section
open Go.Shelf
def sortHL_ren :Go.Shelf.Ren:=⟨fun|6=>222|15=>210|14=>272|28=>254|29=>255|20=>313|21=>314|22=>315|23=>316|24=>317|25=>318|26=>319|27=>320|46=>344|47=>285|48=>286|49=>345|50=>346|57=>356|n=>n,fun|22=>52|24=>110|25=>238|3=>3|39=>106|0=>0|53=>84|55=>74|4=>4|46=>299|45=>298|50=>228|5=>5|9=>9|66=>325|70=>318|76=>360|77=>361|n=>n,fun|n=>n⟩
theorem sortHL :Go.Proofs.SlLaysF0.n6 prog sortHL_ren:={
 mixed:=by kernel_rfl
 f6:=⟨Tryz.f222.name,by decide,func222.trans (congrArg some Zk)⟩
 f14:=⟨Tryz.f272.name,by decide,func272.trans (congrArg some Zk)⟩
 f15:=func210.trans (congrArg some Zk)
 f20:=⟨Tryz.f313.name,by decide,func313.trans (congrArg some Zk)⟩
 f21:=⟨Tryz.f314.name,by decide,func314.trans (congrArg some Zk)⟩
 f22:=⟨Tryz.f315.name,by decide,func315.trans (congrArg some Zk)⟩
 f23:=⟨Tryz.f316.name,by decide,func316.trans (congrArg some Zk)⟩
 f24:=⟨Tryz.f317.name,by decide,func317.trans (congrArg some Zk)⟩
 f25:=⟨Tryz.f318.name,by decide,func318.trans (congrArg some Zk)⟩
 f26:=⟨Tryz.f319.name,by decide,func319.trans (congrArg some Zk)⟩
 f27:=⟨Tryz.f320.name,by decide,func320.trans (congrArg some Zk)⟩
 f28:=func254.trans (congrArg some Zk)
 f29:=func255.trans (congrArg some Zk)
 f46:=⟨Tryz.f344.name,by decide,func344.trans (congrArg some Zk)⟩
 f47:=func285.trans (congrArg some Zk)
 f48:=func286.trans (congrArg some Zk)
 f49:=⟨Tryz.f345.name,by decide,func345.trans (congrArg some Zk)⟩
 f50:=⟨Tryz.f346.name,by decide,func346.trans (congrArg some Zk)⟩
 f57:=⟨Tryz.f356.name,by decide,func356.trans (congrArg some Zk)⟩
 t0:=underlying0
 a0:=Tryz.isAgg0
 z0:=Tryz.sizeOf0
 v0:=Tryz.zeroValue0
 t3:=underlying3
 a3:=Tryz.isAgg3
 z3:=Tryz.sizeOf3
 v3:=Tryz.zeroValue3
 t4:=underlying4
 a4:=Tryz.isAgg4
 z4:=Tryz.sizeOf4
 v4:=Tryz.zeroValue4
 t5:=underlying5
 a5:=Tryz.isAgg5
 z5:=Tryz.sizeOf5
 v5:=Tryz.zeroValue5
 t9:=underlying9
 a9:=Tryz.isAgg9
 z9:=Tryz.sizeOf9
 v9:=Tryz.zeroValue9
 t22:=underlying52
 a22:=Tryz.isAgg52
 z22:=Tryz.sizeOf52
 v22:=Tryz.zeroValue52
 t25:=underlying238
 a25:=Tryz.isAgg238
 z25:=Tryz.sizeOf238
 v25:=Tryz.zeroValue238
 t39:=underlying106
 a39:=Tryz.isAgg106
 z39:=Tryz.sizeOf106
 v39:=Tryz.zeroValue106
 t45:=underlying298
 a45:=Tryz.isAgg298
 z45:=Tryz.sizeOf298
 v45:=Tryz.zeroValue298
 t46:=underlying299
 a46:=Tryz.isAgg299
 z46:=Tryz.sizeOf299
 v46:=Tryz.zeroValue299
 t50:=underlying228
 a50:=Tryz.isAgg228
 z50:=Tryz.sizeOf228
 v50:=Tryz.zeroValue228
 t53:=underlying84
 a53:=Tryz.isAgg84
 z53:=Tryz.sizeOf84
 v53:=Tryz.zeroValue84
 t55:=underlying74
 a55:=Tryz.isAgg74
 z55:=Tryz.sizeOf74
 v55:=Tryz.zeroValue74
 t66:=underlying325
 a66:=Tryz.isAgg325
 z66:=Tryz.sizeOf325
 v66:=Tryz.zeroValue325
 t70:=underlying318
 a70:=Tryz.isAgg318
 z70:=Tryz.sizeOf318
 v70:=Tryz.zeroValue318
 t76:=underlying360
 a76:=Tryz.isAgg360
 z76:=Tryz.sizeOf360
 v76:=Tryz.zeroValue360
 t77:=underlying361
 a77:=Tryz.isAgg361
 z77:=Tryz.sizeOf361
 v77:=Tryz.zeroValue361}
end
theorem Lo {α:Type}{l:List α}{j:Nat}{x:α}(h:l[j]? =some x):(l.eraseIdx j).length+1=l.length:=by
 have:=(List.getElem?_eq_some_iff.1 h).1
 rw[List.length_eraseIdx,if_pos this];omega
theorem ME {α:Type}{l:List α}{j:Nat}{x:α}(h:l[j]? =some x):(l.eraseIdx j).length<l.length:=by have:=Lo h;omega
theorem JA {α:Type}:∀{l:List α} {j:Nat} {x:α},l[j]? =some x->(x::l.eraseIdx j).Perm l
 |[],j,_,h=>by cases j<;>cases h
 |a::l,0,x,h=>by obtain rfl:=Option.some.inj h;exact List.Perm.refl _
 |a::l,j+1,x,h=>(List.Perm.swap a x (l.eraseIdx j)).trans ((JA (l:=l) (j:=j) h).cons a)
theorem Qi {l:List (AH×Value)}{xs ys:List AH}{j:Nat}{x:AH}{v:Value}(h:l[j]? =some (x,v))(hp:(xs++l.map (·.1)).Perm ys):((xs++[x])++(l.eraseIdx j).map (·.1)).Perm ys:=by
 refine List.Perm.trans ?_ hp
 rw[Aap]
 refine List.Perm.append_left xs ?_
 exact(JA h).map (·.1)
section
open Go.RowKit
def rfAssign :Code->Code
 | .seq a b=>match rfAssign a with| .skip=>rfAssign b|c=>c
 | .block _ c=>rfAssign c
 | .rangeFunc _ _ a _=>a
 |_=> .skip
noncomputable def apAssign :Code:=rfAssign (Tryz.f271.body.getD .skip)
noncomputable def apBody :Code:=rfBody (Tryz.f271.body.getD .skip)
noncomputable def FM (fn:FuncId)(D:Nat)(tmps:Array Value)(st:LoopState)(pend:Option Code):Loop:=
 {state:=st,pending:=pend,fn,tmps,params:=#[7],assign:=apAssign,body:=apBody,defers:=D}
def C3 (sv x:Value)(B:Nat):Array Value:=#[.slice none 0 0,sv,jp B,undef,.slice none 0 0,undef,sv,x,undef,undef,undef,undef,undef]
def VC (l B D:Nat)(a:Option Addr):Nat->Prop:=fun q=>q=B∨(q=l∨(q=D∨own a q))
structure HA (w:World)(fn:FuncId)(l B D:Nat)(sv:Value)(N:Nat)(Z:Nat->Prop)(xs:List AH):Prop where
 ex:∃a c,Z=VC l B D a∧AB w B [.slice a xs.length c] 52∧Af w 110 a c xs∧∀q,own a q->N<=q
 L:w.heap[l]? =some (.loop (FM fn D (C3 sv undef B) .ready none))
 K:w.heap[D]? =some (.deferred (some []))
 ap:B≠l∧D≠l∧D≠B
section
variable {w w' W:World}{S Z:Nat->Prop}{fn:FuncId}{l B D N:Nat}{sv:Value}{xs:List AH}
theorem Gt {α:Type}[Enc α]{T:TypeId}{a:Option Addr}{cap j:Nat}{xs:List α}{o:Obj}(h:Af w T a cap xs)(ho:w.heap[j]? =some o)(hn:∀c f,o≠ .cells c T f):¬own a j:=by
 rintro⟨x,rfl,rfl⟩
 rcases h.cases with⟨e,_⟩|⟨g,cur,e,hg,_⟩
 ·cases e
 ·obtain rfl:=Option.some.inj e
  exact hn _ _ (Option.some.inj (ho.symm.trans hg))
theorem HA.oL (h:HA w fn l B D sv N Z xs):∀q,Z q->q<w.heap.size:=by
 obtain⟨a,c,rfl,hB,hO,-⟩:=h.ex
 rintro q (rfl|rfl|rfl|hq)
 ·exact hB.lt
 ·exact(Array.getElem?_eq_some_iff.1 h.L).1
 ·exact(Array.getElem?_eq_some_iff.1 h.K).1
 ·exact hO.oL q hq
theorem HA.kO (h:HA w fn l B D sv N Z xs)(K:Ad S w w')(hp:∀q,Z q->¬S q):HA w' fn l B D sv N Z xs:=by
 have hlt:=h.oL
 obtain⟨a,c,rfl,hB,hO,hg⟩:=h.ex
 have i1:VC l B D a B:= .inl rfl
 have i2:VC l B D a l:= .inr (.inl rfl)
 have i3:VC l B D a D:= .inr (.inr (.inl rfl))
 exact⟨⟨a,c,rfl,hB.keep K (hp _ i1),hO.kO K fun q hq=>hp q (.inr (.inr (.inr hq))),hg⟩,(K.block l (hlt l i2) (hp _ i2)).trans h.L,(K.block D (hlt D i3) (hp _ i3)).trans h.K,h.ap⟩
theorem HA.ext (h:HA w fn l B D sv N Z xs)(K:Ap w w'):HA w' fn l B D sv N Z xs:=h.kO K fun _ _ e=>e
theorem HA.yield (h:HA w fn l B D sv N Z xs)(x:Value):(Instr.yield l #[x]).run prog w= .ok (.round l fn (C3 sv x B) apAssign apBody) w:=by
 simpa[FM,C3]using run_yield (P:=prog) (args:=#[x]) h.L rfl
theorem Xm (sv x:Value)(B:Nat):({tmps:=C3 sv x B,defers:=[]}:Act)=B6 ⟨13,[]⟩ (Je (C3 sv x B)):=by
 unfold B6
 congr 1
theorem Xn (h:HA W fn l B D sv N Z xs)(hl:xs.length<=1000000)(hN:N<=W.heap.size)(x:AH):
  RoundIn Fence.wide 0 prog l fn (C3 sv (Enc.val x) B) apAssign apBody W fun e W'=>e= .returned (.bool true)∧∃Z':Nat->Prop,HA W' fn l B D sv N Z' (xs++[x])∧AL W Z Z'∧Ad Z W W':=by
 obtain⟨a,c,rfl,hB,hO,hg⟩:=h.ex
 obtain⟨hBl,hDl,hDB⟩:=h.ap
 have hll:l<W.heap.size:=(Array.getElem?_eq_some_iff.1 h.L).1
 have hDlt:D<W.heap.size:=(Array.getElem?_eq_some_iff.1 h.K).1
 have hBlt:=hB.lt
 have nB:¬own a B:=Hu hO hB Zd
 have nl:¬own a l:=Gt hO h.L (fun _ _ e=>by cases e)
 have nD:¬own a D:=Gt hO h.K (fun _ _ e=>by cases e)
 refine roundIn_of_wpIn trivial ?_
 rw[Xm]
 simp only[apAssign,apBody,rfAssign,rfBody,Tryz.f271,AbG]
 refine wpIn_region_lit ?_
 refine Ez (by intro c h;cases h) (fun _=>trivial) (Qz ty110) ?_
 have K1:=Ap.push W (.cells (Value.cells (.agg #[.int .i64 0,.string ⟨#[]⟩])) 110)
 have hX1:=F0 W (Value.cells (.agg #[.int .i64 0,.string ⟨#[]⟩])) 110
 have hs1:W.heap.size<({W with heap:=W.heap.push (.cells (Value.cells (.agg #[.int .i64 0,.string ⟨#[]⟩])) 110)}:World).heap.size:=by simp
 generalize ({W with heap:=W.heap.push (.cells (Value.cells (.agg #[.int .i64 0,.string ⟨#[]⟩])) 110)}:World)=W1 at*
 have hst:=Gu (P:=prog) (v:=Enc.val x) (o:=0) ty110 rfl (by intro u hu;simp only[Enc.val,Value.cells,Aai,List.not_mem_nil,or_false]at hu;rcases hu with rfl|rfl<;>rfl) hX1 Zd
 refine Jz (by intro c h;cases h) (fun _=>trivial) (w':=W1.setRow W.heap.size [.int .i64 x.owner,.string x.key].toArray) (by
  simp only[execOp,Sem.run_bind]
  rw[show rd ⟨13,[]⟩ _ (.tmp 5)=jp W.heap.size from rfl,show rd ⟨13,[]⟩ _ (.tmp 7)=Enc.val x from rfl]
  simp only[Instr.storeAt,Instr.sureAddr,Sem.run_bind,Sem.run_pure,Result.andThen_ok,hst];rfl) ?_
 have hX2:AB (W1.setRow W.heap.size [.int .i64 x.owner,.string x.key].toArray) W.heap.size [.int .i64 x.owner,.string x.key] 110:=HJ hX1 _
 have K2:=Ad.setRow W1 W.heap.size [.int .i64 x.owner,.string x.key].toArray
 generalize W1.setRow W.heap.size [.int .i64 x.owner,.string x.key].toArray=W2 at*
 have e2:∀q,q<W.heap.size->W2.heap[q]? =W.heap[q]? :=fun q hq=>(K2.block q Zo (fun e=>by simp only[one]at e;omega)).trans (K1.block q hq id)
 have K02:Ap W W2:=K1.new K2 fun q hq=>by simp only[one]at hq;omega
 have hL2:W2.heap[l]? =some (.loop (FM fn D (C3 sv undef B) .ready none)):=(e2 l hll).trans h.L
 have hbr:=run_beginRound (P:=prog) hL2 rfl
 refine⟨_,hbr,?_⟩
 have hl2:l<W2.heap.size:=(Array.getElem?_eq_some_iff.1 hL2).1
 have hK3:Ad (one l) W2 (W2.putObj l (.loop {FM fn D (C3 sv undef B) .ready none with state:= .busy})):=EI W2 l _
 have hL3:(W2.putObj l (.loop {FM fn D (C3 sv undef B) .ready none with state:= .busy})).heap[l]? =some (.loop {FM fn D (C3 sv undef B) .ready none with state:= .busy}):=World.putObj_heap_same hl2
 generalize W2.putObj l (.loop {FM fn D (C3 sv undef B) .ready none with state:= .busy})=W3 at*
 have hB3:=(hB.ext K02).keep hK3 (fun e=>hBl e)
 have hO3:=(hO.ext K02).kO hK3 (fun q hq (e:q=l)=>nl (e▸hq))
 have hX3:=hX2.keep hK3 (fun(e:W.heap.size=l)=>by omega)
 have hD3:W3.heap[D]? =some (.deferred (some [])):=(hK3.block D (by have:=K02.size;omega) hDl).trans ((K02.block D hDlt id).trans h.K)
 refine wpIn_block ?_
 refine wpIn_region_lit ?_
 refine Ez (by intro c h;cases h) (fun _=>trivial) (HI (v:= .slice a xs.length c) ty52 rfl rfl (hB3.cl.field (i:=0) rfl)) ?_
 refine Ez (by intro c h;cases h) (fun _=>trivial) (BQ (y:=x) (v:=Enc.val x) ty110 rfl (show Cl W3 W.heap.size 0 (cellsOf x)from hX3.cl) rfl) ?_
 have hbs:=run_buildSlice (P:=prog) (w:=W3) (t:=52) underlying52 ty110 [x] ((#[(0,Operand.tmp 9)]:Array (Nat×Operand)).map fun(i,y)=>(i,rd ⟨13,[]⟩ (Bc (Bc (Bc (Je (C3 sv (Enc.val x) B)) (some 5) (jp W.heap.size)) (some 8) (.slice a xs.length c)) (some 9) (Enc.val x)) y)) (by simp only[Aa8,Aae,Aau];rfl) (by show 1*2<=16777216;decide)
 refine Ez (by intro c h;cases h) (fun _=>trivial) (v:= .slice (some ⟨W3.heap.size,0,none⟩) 1 1) (w':={W3 with heap:=W3.heap.push (.cells (AM [x]).toArray 110)}) (by
  unfold X
  simp only[execOp,Sem.run_bind]
  have hbs2:=hbs
  rw[show[x].length=1 from rfl]at hbs2
  simp only[hbs2,Result.andThen_ok,Sem.run_pure]) ?_
 have K4:=Ap.push W3 (.cells (AM [x]).toArray 110)
 have hN4:=Kb W3 110 [x] (by show 1<=maxLen;simp only[maxLen];omega)
 generalize ({W3 with heap:=W3.heap.push (.cells (AM [x]).toArray 110)}:World)=W4 at*
 have hB4:=hB3.ext K4
 have hO4:=hO3.ext K4
 obtain⟨a',c',W5,hap,hO5,K5,hm5,-⟩:=Kd (P:=prog) (w:=W4) (ty:=52) (cap2:=1) underlying52 ty110 rfl hO4 hN4.sl (by simp only[maxLen,AaS];omega) (by simp only[AaS];omega)
 refine Ez (by intro c h;cases h) (fun _=>trivial) (v:= .slice a' (xs++[x]).length c') (w':=W5) (by
  unfold X
  have h1:rd ⟨13,[]⟩ (Bc (Bc (Bc (Bc (Je (C3 sv (Enc.val x) B)) (some 5) (jp W.heap.size)) (some 8) (.slice a xs.length c)) (some 9) (Enc.val x)) (some 10) (.slice (some ⟨W3.heap.size,0,none⟩) 1 1)) (.tmp 8)= .slice a xs.length c:=rfl
  have h2:rd ⟨13,[]⟩ (Bc (Bc (Bc (Bc (Je (C3 sv (Enc.val x) B)) (some 5) (jp W.heap.size)) (some 8) (.slice a xs.length c)) (some 9) (Enc.val x)) (some 10) (.slice (some ⟨W3.heap.size,0,none⟩) 1 1)) (.tmp 10)= .slice (some ⟨W3.heap.size,0,none⟩) [x].length 1:=rfl
  simp only[execOp,resolve,invoke,builtin,Sem.run_bind,Sem.run_pure,Result.andThen_ok,Aa8,Aae,Aau,h1,h2,hap]) ?_
 have s4:W3.heap.size<=W4.heap.size:=K4.size
 have s3:W2.heap.size<=W3.heap.size:=hK3.size
 have s2:=K02.size
 have hB5:=hB4.keep K5 nB
 have hst2:=Gu (P:=prog) (v:= .slice a' (xs++[x]).length c') (o:=0) ty52 rfl (by intro u hu;simp only[Value.cells,Aai,List.not_mem_nil,or_false]at hu;subst hu;rfl) hB5 (Aac 1)
 refine Jz (by intro c h;cases h) (fun _=>trivial) (w':=W5.setRow B [.slice a' (xs++[x]).length c'].toArray) (by
  simp only[execOp,Sem.run_bind]
  rw[show rd ⟨13,[]⟩ _ (.tmp 2)=jp B from rfl,show rd ⟨13,[]⟩ _ (.tmp 11)= .slice a' (xs++[x]).length c' from rfl]
  simp only[Instr.storeAt,Instr.sureAddr,Sem.run_bind,Sem.run_pure,Result.andThen_ok,hst2];rfl) ?_
 have hB6:AB (W5.setRow B [.slice a' (xs++[x]).length c'].toArray) B [.slice a' (xs++[x]).length c'] 52:=HJ hB5 _
 have K6:=Ad.setRow W5 B [.slice a' (xs++[x]).length c'].toArray
 have nB':¬own a' B:=Hu hO5 hB5 Zd
 have hO6:=hO5.kO K6 (fun q hq (e:q=B)=>nB' (e▸hq))
 generalize W5.setRow B [.slice a' (xs++[x]).length c'].toArray=W6 at*
 have t5:W4.heap.size<=W5.heap.size:=K5.size
 have hL4:=(K4.block l Zo id).trans hL3
 have hL6:=(K6.block l Zo (fun(e:l=B)=>hBl e.symm)).trans ((K5.block l Zo nl).trans hL4)
 have hD6:=(K6.block D Zo (fun(e:D=B)=>hDB e)).trans ((K5.block D Zo nD).trans ((K4.block D Zo id).trans hD3))
 have hl6:l<W6.heap.size:=(Array.getElem?_eq_some_iff.1 hL6).1
 have K7:=EI W6 l (.loop (FM fn D (C3 sv undef B) .ready none))
 have nl':¬own a' l:=Gt hO6 hL6 (fun _ _ e=>by cases e)
 have hmv:∀q,own a' q->own a q∨W.heap.size<=q:=fun q hq=>(IH hm5 q hq).imp id fun e=>by omega
 refine⟨_,_,run_endRound none hL6,rfl,VC l B D a',⟨⟨a',c',rfl,hB6.keep K7 hBl,hO6.kO K7 (fun q hq (e:q=l)=>nl' (e▸hq)),fun q hq=>(hmv q hq).elim (hg q) fun e=>by omega⟩,World.putObj_heap_same hl6,(World.putObj_heap_other hDl).trans hD6,h.ap⟩,?_,?_⟩
 ·rintro q (e|e|e|e)
  ·exact .inl (.inl e)
  ·exact .inl (.inr (.inl e))
  ·exact .inl (.inr (.inr (.inl e)))
  ·exact(hmv q e).imp (fun e=> .inr (.inr (.inr e))) id
 ·have i1:∀q,one B q->VC l B D a q:=fun q e=> .inl e
  have i2:∀q,one l q->VC l B D a q:=fun q e=> .inr (.inl e)
  have i3:∀q,own a q->VC l B D a q:=fun q e=> .inr (.inr (.inr e))
  exact(((((K02.mono (S':=VC l B D a) fun _ _ e=>e.elim).trans hK3 fun q _=>i2 q).trans K4 fun _ _ e=>e.elim).trans K5 fun q _=>i3 q).trans K6 fun q _=>i1 q).trans K7 fun q _=>i2 q
end
end
attribute [local irreducible] X
theorem Zm (m:Nat)(w:World):
  Calls prog 170 #[.map (some m)] w (AN (fun v w'=>∃b,v= .func (.func 223) #[] #[jp b]∧AB w' b [.map (some m)] 91∧w.heap.size<=b∧Ap w w')):=by
 refine Ac (n:=4) func170 rfl rfl rfl ?_;refine jG ?_;refine jR<|jB ?_;intro a0 a4 a1 a2 a3;have:w.heap.size<=a0:=a1;clear a1;have K0:=(a3:Ap w _);refine jV (Ch (v:= .nilFunc) rfl) ?_;refine jG ?_;refine jV (CQ (a:=[]) (c:=[jp a0]) rfl rfl) ?_;refine jG ?_;refine jJ func170 ?_;exact⟨_,rfl,_,rfl,a2,Zo,K0⟩
theorem Xo (fn:FuncId)(l B D Bm m N:Nat)(sv:Value)(Z:Nat->Prop)(ps:List (AH×Value))(w:World)(hb:AB w Bm [.map (some m)] 91)(hM:At w m ps)(hA:HA w fn l B D sv N Z [])(hap:¬Z Bm)(hap2:¬Z m)(hN:N<=w.heap.size)(hl:ps.length<=1000000):
  Calls prog 223 #[.func (.yield l) #[] #[],jp Bm] w (AN (fun v w'=>v= .tuple #[]∧∃(Z':Nat->Prop) (xs:List AH),HA w' fn l B D sv N Z' xs∧xs.Perm (ps.map (·.1))∧AL w Z Z'∧Ad Z w w')):=by
 refine Ac (n:=14) func223 rfl rfl rfl ?_;refine jG ?_;refine jR<|AA.rangeMap underlying91 rfl hM ?_;intro a1 aC a4 ah a7;have ap:=Aw (Bw a4) hb.lt;have aq:=Ah (Bw a4) hM.oL;have ar:=Ah (Bw a4) hA.oL;have au:∀q_,one a1 q_->q_<w.heap.size->Z q_:=Hx (Aac _) (Bw a4);clear a4;have K0:=(a7:Ap w _).to (S:=Z);refine jG ?_;replace hb:=hb.ext a7;replace hM:=hM.ext a7;replace hA:=hA.ext a7;refine Ai.loop (ι:=Nat) (fun k ρ' w'=>∃lr:List (AH×Value),∃la:Option (AH×Value),∃xs:List AH,∃Zk9:Nat->Prop,Holds ρ' [(0,.func (.yield l) #[] #[]),(5,jp a1)]∧Ad Z w w'∧(AB w' Bm [.map (some m)] 91)∧(At w' m ps)∧(B7 w' a1 m lr la)∧(HA w' fn l B D sv N Zk9 xs)∧(¬one a1 Bm)∧(∀q_,one a1 q_->¬one m q_)∧(∀q_,one a1 q_->¬Zk9 q_)∧(∀q_,one a1 q_->q_<w.heap.size->Z q_)∧(¬Zk9 Bm)∧(∀q_,Zk9 q_->¬one m q_)∧(∀q_,Zk9 q_->q_<w.heap.size->Z q_)∧(k=lr.length)∧(xs.length+lr.length=ps.length)∧((xs++lr.map (·.1)).Perm (ps.map (·.1)))) (fun k=>k) ps.length ?_ ?_
 ·refine⟨ps,none,[],Z,⟨rfl,rfl,trivial⟩,K0,hb,hM,ah,hA,ap,aq,ar,au,hap,(fun q_ h_ (e_:q_=m)=>hap2 (e_▸h_)),(fun q_ h_ _=>h_),?_,?_,?_⟩
  ·rfl
  ·exact Aaq _
  ·exact List.Perm.refl _
 clear hb hM hA ah;clear K0;rintro k aD aE ⟨lr,la,xs,Zk9,ai,K0,hb,hM,a0,a2,aj,ak,ac,al,am,ad,ae,hk,hxl,hperm⟩ ih1;obtain⟨ρ₀,rfl⟩:=ai.ex;clear ai;refine jG ?_;refine jR<|AA.nextMap rfl a0 ?_ ?_
 ·intro h0_23
  replace h0_23:lr=[]:=h0_23;refine jG ?_;refine Ai.condF rfl ?_;refine jG ?_;refine Ai.fin0 func223 rfl ?_;subst h0_23;exact⟨_,rfl,rfl,_,_,a2,by simpa using hperm,fun q_ h_=>(Abo q_ w.heap.size).elim (fun l_=> .inl (ae q_ h_ l_)) .inr,K0⟩
 ·intro jx an aF aG h0_27 af a8
  obtain⟨x,hx0⟩:∃x,x=an:=⟨_,rfl⟩;rw[<-hx0]at h0_27 af;have hx:=h0_27;clear h0_27;rw[show MKey.enc an=Enc.val x from by rw[hx0];rfl];replace K0:=K0.trans a8 (fun x hlt hx=>al x hx hlt);replace a0:=af;clear af;refine jG ?_;refine C4 ?_;refine jG ?_;refine jV (MF rfl a0) ?_;refine jG ?_;refine jR<|jA ?_;intro aH aI a3 ag a5;replace hb:=hb.keep a8 aj;have aJ:=Ak hb.lt a3;replace hM:=hM.kO a8 (Zf ak);have ao:=An hM.oL a3;have av:=An a0.oL a3;replace a2:=a2.kO a8 (Zf ac);have aw:=An a2.oL a3;have:=Aaa K0.size a3;clear a3;refine jR<|jS ag ?_;intro aK ag a6;replace K0:=K0.ext a5;replace K0:=K0.n1 a6;refine RL.nil (.seq (.regionI ?_));refine Qe.val (DL (v:= .func (.yield l) #[] #[]) rfl) ?_;refine Qe.val (Xx ty110 rfl rfl (ag.cl.drop 0 2)) ?_;replace a2:=(a2.ext a5).kO a6 (Aa aw);refine Qe.yield (vals:=[.agg #[.int .i64 x.owner,.string x.key]]) rfl rfl (a2.yield _) (Xn (x:=x) a2 Zo (by first|omega|(have:=K0.size;omega))) ?_;rintro _ aL ⟨rfl,a9,ax,aa,ab⟩;refine⟨_,rfl,?_⟩;replace hb:=(hb.ext a5).kp a6;have ay:¬a9 Bm:=aa.not am hb.lt;replace hM:=(hM.ext a5).kO a6 (Aa ao);have az:∀q_,a9 q_->¬one m q_:=aa.apart ad hM.oL;replace a0:=(a0.ext a5).kO a6 (Aa av) (Aa ao);have aA:∀q_,a9 q_->¬one a1 q_:=aa.apart (Zf ac) a0.oL;have aB:∀q_,a9 q_->q_<w.heap.size->Z q_:=aa.inS ae K0.size;replace K0:=K0.trans ab (fun x hlt hx=>ae x hx hlt);refine Qe.val (Bn (b:=true) rfl) ?_;refine Qe.nil ?_;refine Ai.condF rfl ?_;refine jG ?_;refine ih1 ((lr.eraseIdx jx).length) _ _ ?_ (by rw[hk];exact ME hx);replace hb:=hb.keep ab am;replace hM:=hM.kO ab (Zf ad);replace a0:=a0.kO ab ac (Zf ad);refine⟨lr.eraseIdx jx,_,xs++[x],_,⟨rfl,rfl,trivial⟩,K0,hb,hM,a0,ax,aj,ak,(Zf aA),al,ay,az,aB,?_,?_,?_⟩
  ·rfl
  ·have h9_:=ME hx;have h8_:=Lo hx;simp only[Aab,AaS];omega
  ·exact Qi hx hperm
section
open Go.RowKit
theorem OX (Bm m:Nat)(ps:List (AH×Value))(w:World)(hb:AB w Bm [.map (some m)] 91)(hM:At w m ps)(hl:ps.length<=1000000):
  Calls prog 271 #[.slice none 0 0,.func (.func 223) #[] #[jp Bm]] w (AN fun v w'=>∃a c xs,v= .slice a (xs:List AH).length c∧Af w' 110 a c xs∧(∀q,own a q->w.heap.size<=q)∧xs.Perm (ps.map (·.1))∧Ap w w'):=by
 refine(callsIn_wide (n:=0)).1 ?_
 refine callsIn_of_wp_marks func271 rfl trivial ?_ rfl
 simp only[Tryz.ntmps271,Aa7,Aaj,Aar,Nat.reduceAdd,Nat.reduceSub,Array.replicate_succ,Array.replicate_zero,List.push_toArray,List.append_toArray,Aaz,Abm]
 gi_wp2
 refine wpIn_rangeFunc ?_
 intro fn hfn
 obtain⟨sv,hsv⟩:∃sv:Value,sv= .func (.func 223) #[] #[jp Bm]:=⟨_,rfl⟩
 obtain⟨W0,hW0⟩:∃W0,w.alloc (.cells #[.slice none 0 0] 52)=W0:=⟨_,rfl⟩
 have hKw:Ap w W0:=hW0▸Ap.push w _
 have hB0:AB W0 w.heap.size [.slice none 0 0] 52:=hW0▸F0 w _ 52
 have hs0:W0.heap.size=w.heap.size+1:=by rw[<-hW0];simp
 rw[hW0]
 obtain⟨W1,hW1⟩:∃W1,(W0.alloc (.deferred (some []))).alloc (.loop (FM fn W0.heap.size (C3 sv undef w.heap.size) .ready none))=W1:=⟨_,rfl⟩
 have hK1:Ap W0 W1:=hW1▸(Ap.push W0 _).ext (Ap.push _ _)
 have hs1:W1.heap.size=W0.heap.size+2:=by rw[<-hW1];simp
 have hL1:W1.heap[W0.heap.size+1]? =some (.loop (FM fn W0.heap.size (C3 sv undef w.heap.size) .ready none)):=by
  rw[<-hW1];have:=World.alloc_heap_new (W0.alloc (.deferred (some []))) (.loop (FM fn W0.heap.size (C3 sv undef w.heap.size) .ready none));rwa[World.size_alloc]at this
 have hD1:W1.heap[W0.heap.size]? =some (.deferred (some [])):=by
  rw[<-hW1];exact(Below.heap_alloc _ _ _ Zs).trans (World.alloc_heap_new W0 _)
 have hA:HA W1 fn (W0.heap.size+1) w.heap.size W0.heap.size sv w.heap.size (VC (W0.heap.size+1) w.heap.size W0.heap.size none) []:=
  ⟨⟨none,0,rfl,hB0.ext hK1,Af.nil _ _,fun q hq=>absurd hq (Ae q)⟩,hL1,hD1,by omega,by omega,by omega⟩
 have hKW1:Ap w W1:=hKw.ext hK1
 have hnew:∀q,VC (W0.heap.size+1) w.heap.size W0.heap.size none q->w.heap.size<=q:=by
  rintro q (rfl|rfl|rfl|hq)
  ·omega
  ·omega
  ·omega
  ·exact absurd hq (Ae q)
 have hblt:=hb.lt
 have hmlt:=hM.lt
 refine⟨W0.heap.size+1,[{target:= .collected W0.heap.size,args:=#[]}],W1,{target:= .fn (.func 223) #[jp Bm],args:=#[.func (.yield (W0.heap.size+1)) #[] #[]]},W1,223,
  #[.func (.yield (W0.heap.size+1)) #[] #[],jp Bm],W1,?_,?_,fun _ _=>trivial,?_,fun h=>absurd h (by simp[Fence.wide]),?_⟩
 ·rw[<-hW1,hsv];exact run_enterLoop_outer _ _ _ _ _
 ·simp[resolve,go_sem]
 ·simp[invoke,go_sem]
 ·refine(callsIn_wide.2 (Xo fn (W0.heap.size+1) w.heap.size W0.heap.size Bm m w.heap.size sv _ ps W1 (hb.ext hKW1) (hM.ext hKW1) hA (fun h=>absurd (hnew _ h) Zo) (fun h=>absurd (hnew _ h) Zo) Zo hl)).mono ?_
  rintro e W2 ⟨v,rfl,rfl,Z',xs,h2,hp,hmv,K2⟩
  have hend:=run_endLoop (P:=prog) h2.L (by simp[FM])
  have hK3:=EI W2 (W0.heap.size+1) (.loop {FM fn W0.heap.size (C3 sv undef w.heap.size) .ready none with state:= .exhausted})
  have hL2:=h2.L
  have hlt2:=h2.oL
  obtain⟨a,c,rfl,hB2,hO2,hg2⟩:=h2.ex
  have nl:¬own a (W0.heap.size+1):=Gt hO2 hL2 (fun _ _ e=>by cases e)
  generalize W2.putObj (W0.heap.size+1) (.loop {FM fn W0.heap.size (C3 sv undef w.heap.size) .ready none with state:= .exhausted})=W3 at*
  have hb3:=hB2.keep hK3 (fun(e:w.heap.size=W0.heap.size+1)=>by omega)
  have hO3:=hO2.kO hK3 (fun q hq (e:q=W0.heap.size+1)=>nl (e▸hq))
  have hc3:W3.cell? ⟨w.heap.size,0,none⟩=some (.slice a xs.length c):=hb3.cl.head
  have hD3:W3.heap[W0.heap.size]? =some (.deferred (some [])):=(hK3.block _ (hlt2 _ (.inr (.inr (.inl rfl)))) (fun(e:W0.heap.size=W0.heap.size+1)=>by omega)).trans h2.K
  refine⟨none,W3,hend,?_⟩
  gi_wp2
  try rw[<-hs0]
  refine⟨by simp,.inl ⟨_,_,rfl,run_takeDeferred hD3,?_⟩⟩
  have nD:¬own a W0.heap.size:=Gt hO3 hD3 (fun _ _ e=>by cases e)
  have K4:=EI W3 W0.heap.size (.deferred none)
  refine⟨_,results_tmp rfl _ _ _,_,rfl,a,c,xs,rfl,hO3.kO K4 (fun q hq (e:q=W0.heap.size)=>nD (e▸hq)),hg2,hp,?_⟩
  exact((hKW1.new K2 fun x hx=>hnew x hx).new hK3 fun x hx=>by simp only[one]at hx;omega).new K4 fun x hx=>by simp only[one]at hx;omega
end
theorem gr (a b:AH)(w:World)(ha:Qf a)(hb:Qf b):
  Calls prog 171 #[.agg #[.int .i64 a.owner,.string a.key],.agg #[.int .i64 b.owner,.string b.key]] w (AN (fun v w'=>v= .int .i64 (Te a b)∧Ap w w'∧Gr w w')):=by
 unfold Qf at ha hb;obtain⟨ha1,ha2⟩:=ha;obtain⟨hb1,hb2⟩:=hb;have G0:=Gr.refl w;refine Ac (n:=20) func171 rfl rfl rfl ?_;refine jG ?_;refine jR<|AA.boxG (v:= .agg #[.int .i64 a.owner,.string a.key]) rfl ?_;intro a2 a6 a3 a0 a7 hG_;replace a0:AB a6 a2 [.int .i64 a.owner,.string a.key] 110:=a0;have:w.heap.size<=a2:=a3;clear a3;have K0:=(a7:Ap w _);replace G0:=Gr.trans G0 hG_;clear hG_;refine jR<|AA.boxG (v:= .agg #[.int .i64 b.owner,.string b.key]) rfl ?_;intro a8 a9 a1 a4 a5 hG_;replace a4:AB a9 a8 [.int .i64 b.owner,.string b.key] 110:=a4;have aa:=Ak a0.lt a1;have:=Aaa K0.size a1;clear a1;replace G0:=Gr.trans G0 hG_;clear hG_;replace a0:=a0.ext a5;refine jG ?_;replace K0:=K0.ext a5;refine jF ?_ ?_
 ·intro hc9
  refine jG ?_;refine jV (BT rfl rfl Zo Zo) ?_;refine jG ?_;refine jJ func171 ?_;exact⟨_,rfl,by unfold Te;(repeat' split)<;>first|rfl|omega,K0,G0⟩
 ·intro hc9
  refine jG ?_;refine jR<|jC (JW (Any.strings_Compare cmpSL a.key b.key _)) ?_;rintro _ _ ⟨rfl,rfl⟩;refine jG ?_;refine jJ func171 ?_;exact⟨_,rfl,by unfold Te;(repeat' split)<;>first|rfl|omega,K0,G0⟩
section
open Go.Shelf Go.RowKit Go.Lib Go.Sort
def VS (x y:{x:AH//Qf x}):Int:=Te x.1 y.1
theorem swoH :SWO (ltOf VS) where
 irrefl x:=by simp only[ltOf,VS];exact decide_eq_false (fun h=>Nq _ (GG.1 h))
 trans x y z h1 h2:=by simp only[ltOf,VS]at*;exact decide_eq_true (GG.2 (Gs (GG.1 (of_decide_eq_true h1)) (GG.1 (of_decide_eq_true h2))))
 ntrans x y z h1 h2:=by
  simp only[ltOf,VS,decide_eq_false_iff_not,GG]at*
  intro e
  by_cases c1:O8 y.1 x.1
  ·exact h2 (Gs c1 e)
  ·have:=J4 c1 h1;rw[this]at h2;exact h2 e
theorem gR (x y:{x:AH//Qf x})(h1:ltOf VS x y=false)(h2:ltOf VS y x=false):x=y:=by
 simp only[ltOf,VS,decide_eq_false_iff_not,GG]at*;exact Subtype.ext (J4 h1 h2)
theorem Tf {a:Option Addr}{xs:List AH}{c:Nat}{w:World}(ho:Af w 110 a c xs)(hx:∀x∈xs,Qf x)(hl:xs.length<=4294967295):
  Calls prog 222 #[.slice a xs.length c,.func (.func 171) #[] #[]] w (AN fun v w'=>v= .tuple #[]∧Af w' 110 a c (FL xs)∧Ad (own a) w w'):=by
 have e:(xs.attachWith Qf hx).map Subtype.val=xs:=Acq hx
 have h:=Nb (α:={x:AH//Qf x}) (β:=AH) sortHL Subtype.val Tryz.isAgg110 Tryz.sizeOf110 VS swoH gR 171 (Du func171 rfl Zk) (fun x y W=>(gr x.1 y.1 W x.2 y.2).mono fun e w' ⟨v,h1,h2,_,h3⟩=>by unfold Gr at h3;exact⟨by rw[h1,h2];rfl,h3⟩) (xs.attachWith Qf hx) (by rw[e];exact ho) (by rw[Acr];exact hl)
 rw[KV Subtype.val (fun x y=> !(ltOf VS) y x) Zj (fun a b=>by simp only[ltOf,VS,Zj,GG]),e]at h
 exact h
end
theorem Tg (Bm m:Nat)(ps:List (AH×Value))(w:World)(hb:AB w Bm [.map (some m)] 91)(hM:At w m ps)(hl:ps.length<=1000000):
  Calls prog 221 #[.func (.func 223) #[] #[jp Bm]] w (AN (fun v w'=>∃a c xs,v= .slice a (xs:List AH).length c∧Af w' 110 a c xs∧(∀q,own a q->w.heap.size<=q)∧xs.Perm (ps.map (·.1))∧Ap w w')):=by
 refine Ac (n:=5) func221 rfl rfl rfl ?_;refine jG ?_;refine jR<|jC (OX Bm m ps _ hb hM Zo) ?_;rintro _ a8 ⟨a1,a2,a3,rfl,a4,a0,a5,a6⟩;have a7:=Bd (Aac _) a0;clear a0;have K0:=(a6:Ap w _);refine jG ?_;refine jJ func221 ?_;exact⟨_,rfl,a1,a2,a3,rfl,a4,a7,a5,K0⟩
theorem VD (Bm m:Nat)(ps:List (AH×Value))(w:World)(hb:AB w Bm [.map (some m)] 91)(hM:At w m ps)(hl:ps.length<=1000000)(hsm:∀p∈ps,Qf p.1):
  Calls prog 169 #[.func (.func 223) #[] #[jp Bm],.func (.func 171) #[] #[]] w (AN (fun v w'=>∃a c xs,v= .slice a (FL xs).length c∧Af w' 110 a c (FL xs)∧(∀q,own a q->w.heap.size<=q)∧xs.Perm (ps.map (·.1))∧Ap w w')):=by
 refine Ac (n:=12) func169 rfl rfl rfl ?_;refine jG ?_;refine jR<|jC (Tg Bm m ps _ hb hM Zo) ?_;rintro _ aa ⟨a6,a7,a0,rfl,a2,a1,a3,a8⟩;have ab:=Aw a1 hb.lt;have ac:=Ah a1 hM.oL;have a4:=Bd (Aac _) a1;clear a1;have K0:=(a8:Ap w _);refine jG ?_;have hsm_:∀x∈a0,Qf x:=fun x hx=>by obtain⟨p,hp_,rfl⟩:=List.mem_map.1 (a3.mem_iff.1 hx);exact hsm p hp_
 have hxl_:a0.length=ps.length:=by rw[a3.length_eq,Aad]
 refine jR<|jC (Tf a2 hsm_ Zo) ?_;rintro _ ad ⟨rfl,a5,a9⟩;replace a2:=a5;clear a5;have hsl_:(FL a0).length=a0.length:=Fx.length_eq;refine jG ?_;refine jJ func169 ?_;replace K0:=K0.new a9 a4;exact⟨_,rfl,a6,a7,a0,by rw[Fx.length_eq],a2,a4,a3,K0⟩
theorem Zu (b lg m1 m2 m3:Nat)(st:Int)(ps:List (AH×Value))(w:World)(hb:AB w b [.int .i32 1,.int .u32 0,jp lg,.int .i64 st,.map (some m1),.map (some m2),.map (some m3)] 94)(hM2:At w m2 ps)(n3:b≠m2)(hsm:∀p∈ps,Qf p.1)(hl:ps.length<=1000000):
  Calls prog 108 #[jp b] w (AN (fun r w'=>∃a c xs,r= .slice a (FL xs).length c∧Af w' 110 a c (FL xs)∧(∀q,own a q->w.heap.size<=q)∧xs.Perm (ps.map (·.1))∧Ap w w')):=by
 refine Ac (n:=9) func108 rfl rfl rfl ?_;refine jG ?_;refine jR<|jC (Zm m2 _) ?_;rintro _ ac ⟨a2,rfl,a3,a4,a0⟩;have ad:=Ak hb.lt a4;have K0:=(a0:Ap w _);replace hM2:=hM2.ext a0;refine jR<|jC (VD a2 m2 ps _ a3 hM2 Zo hsm) ?_;rintro _ ae ⟨a5,a6,a7,rfl,a8,a1,a9,aa⟩;have ab:=Bd K0.size a1;clear a1;refine jG ?_;refine jJ func108 ?_;replace K0:=K0.ext aa;exact⟨_,rfl,a5,a6,a7,rfl,a8,ab,a9,K0⟩
theorem VE (b lg m1 m2 m3:Nat)(st:Int)(ps:List (AH×Value))(w:World)(hb:AB w b [.int .i32 0,.int .u32 0,jp lg,.int .i64 st,.map (some m1),.map (some m2),.map (some m3)] 94)(hM2:At w m2 ps)(n3:b≠m2)(hsm:∀p∈ps,Qf p.1)(hl:ps.length<=1000000):
  Calls prog 52 #[jp b] w (AN (fun r w'=>AB w' b [.int .i32 0,.int .u32 0,jp lg,.int .i64 st,.map (some m1),.map (some m2),.map (some m3)] 94∧Ad (one b) w w'∧∃a c xs,r= .slice a (FL xs).length c∧Af w' 110 a c (FL xs)∧(∀q,own a q->w.heap.size<=q)∧xs.Perm (ps.map (·.1)))):=by
 refine Ac (n:=11) func52 rfl rfl rfl ?_;refine jG ?_;refine jR<|jC (Bv _ _ _ _ _ _ _ hb) ?_;rintro _ ae ⟨rfl,a2,a3⟩;have K0:=(Ad.refl (one b) w).tf a3 rfl;replace hb:=a2;clear a2;refine jV (Bn (b:=true) rfl) ?_;refine jG ?_;refine Ai.condF rfl ?_;refine jG ?_;refine RL.defer (vals:=[jp b]) rfl ?_;refine jG ?_;replace hM2:=hM2.kO a3 (Zx (fun e_=>n3 e_));refine jR<|jC (Zu _ _ _ _ _ _ ps _ hb hM2 n3 hsm hl) ?_;rintro _ a4 ⟨a8,a9,aa,rfl,a0,a1,ab,a5⟩;have ac:=Aw a1 hb.lt;have ad:=Bd K0.size a1;clear a1;refine jG ?_;replace hb:=hb.ext a5;refine Ai.retU muLib func52 rfl (fun _=>Bq rfl rfl) hb.cellH (hb.thawH 0) ?_;obtain⟨a6,hwU_⟩:∃w_,w_=a4.setCell ⟨b,0,none⟩ (.int .i32 0):=⟨_,rfl⟩;rw[<-hwU_];have hbU_:AB a6 b [.int .i32 0,.int .u32 0,jp lg,.int .i64 st,.map (some m1),.map (some m2),.map (some m3)] 94:=hwU_▸hb.setH;have a7:Ad (one b) a4 a6:=hwU_▸AJ _ _ _ _;replace K0:=K0.ext a5;replace K0:=K0.tf a7 rfl;replace hb:=hbU_;replace a0:=a0.kO a7 (Aa ac);exact⟨_,rfl,hb,K0,a8,a9,aa,rfl,a0,ad,ab⟩
section
variable {w w':World}{b d lg m1 m2 m3:Nat}{F F' Z S:Nat->Prop}{st:Int}{pl pl':List PF}{ts ts':List Kc}{ks ks':List Km}{hs hs':List AH}{s:KF}{key:ByteArray}
theorem Zy {n:Nat}(h:GN w b d Z pl s)(hL:A2 w)(hG:FK s)(hf:IE s n)(hn:n<=1000):
  Calls prog 52 #[jp b] w (AN fun r w'=>GN w' b d Z pl s∧Ad Z w w'∧∃a c l,Hv s l∧l.length<=n∧r= .slice a (l:List AH).length c∧Af w' 110 a c l∧(∀q,own a q->w.heap.size<=q)):=by
 obtain⟨lg,m1,m2,m3,F,st,ts,ks,hs,rfl,H,T⟩:=h
 have e:(hs.map J2).map (·.1)=hs:=by rw[Aat];exact(AaF fun _ _=>rfl).trans (List.map_id _)
 have hnd:hs.Nodup:=by have:=H.mh.nodup;rwa[e]at this
 obtain⟨l0,h1,h2⟩:=hf.h
 have hle:=IF (k:=l0) hnd fun x hx=>h2 x ((T.h x).2 hx)
 refine(VE b lg m1 m2 m3 st _ w H.blk H.mh H.ne.2.2.1 (fun p hp=> ?_) (by rw[Aad];omega)).mono fun e' w' hh=> ?_
 ·obtain⟨x,hx,rfl⟩:=List.mem_map.1 hp
  exact(hG.h x ((T.h x).2 hx)).1
 ·obtain⟨v,rfl,hb,K,a,c,xs,rfl,h3,h4,h5⟩:=hh
  rw[e]at h5
  exact⟨_,rfl,⟨lg,m1,m2,m3,F,st,ts,ks,hs,rfl,H.same hL.size K hb,T⟩,K.mono fun q _ hq=>one_set9 q hq,a,c,FL xs,Qh (h5.nodup_iff.2 hnd) (fun x=>h5.mem_iff.trans (T.h x).symm),by rw[Fx.length_eq,h5.length_eq];omega,rfl,h3,h4⟩
end
end Go.Proofs.YtjkaicjmfgekjaaGreatDoor
namespace Go.Proofs.YtjkaicjmfgekjaaGreatDoor
open Go.Proofs.Tryz
attribute [local irreducible] RD RS AA RL RA RT Cz Ai AC DQ Cp BH Bz B4 Cb D4 Cj itemsN BW AO Br BK Gr AP A4 Ar Ck As A1 Ay A5 EM AW AK Cy setM Ax Ao
structure Ct where
 v:MV
 s:Ge
def Ct.c (t:Ct):Ba:=(CN t.v t.s).cart
def cv (v:MV):List Aj×List Ab×List Ag:=(v.ent,v.mrk,v.cl)
structure Mh where
 a:Option Addr
 c:Nat
 l:List Ab
def Mh.h (t:Mh):SH:=⟨t.a,t.l.length,t.c⟩
structure Qj where
 keys:SH
 carts:SH
 hints:SH
 marks:SH
instance : Enc Qj:=Enc.struct (fun t=>[.slice t.keys.a t.keys.len t.keys.cap,.slice t.carts.a t.carts.len t.carts.cap,.slice t.hints.a t.hints.len t.hints.cap,.slice t.marks.a t.marks.len t.marks.cap]) 4 (fun _=>rfl) (fun _ v hv=>by simp at hv;rcases hv with rfl|rfl|rfl|rfl<;>rfl) Zd
structure EZ where
 ka:Option Addr
 kc:Nat
 ks:List ByteArray
 ca:Option Addr
 cc:Nat
 cs:List Ct
 ha:Option Addr
 hc:Nat
 hs:List AH
 ma:Option Addr
 mc:Nat
 ms:List Mh
def EZ.c (t:EZ):Qj:=⟨⟨t.ka,t.ks.length,t.kc⟩,⟨t.ca,(t.cs.map Ct.c).length,t.cc⟩,⟨t.ha,t.hs.length,t.hc⟩,⟨t.ma,(t.ms.map Mh.h).length,t.mc⟩⟩
def EZ.p (t:EZ):(List ByteArray×List AH)×List (List Aj×List Ab×List Ag)×List (List Ab):=((t.ks,t.hs),t.cs.map (fun x=>cv x.v),t.ms.map (·.l))
theorem RF {t u:EZ}:t.p=u.p↔(t.ks=u.ks∧t.hs=u.hs)∧t.cs.map (fun x=>cv x.v)=u.cs.map (fun x=>cv x.v)∧t.ms.map (·.l)=u.ms.map (·.l):=by
 unfold EZ.p;simp only[Prod.mk.injEq]
instance (t u:EZ):Decidable (t.p=u.p):=decidable_of_iff _ RF.symm
def BP (ks:List Ct):Nat->Prop:=fun q=>∃t∈ks,En t.s q
def Db (w:World)(ks:List Ct):Prop:=∀t∈ks,Dr w t.s t.v∧JT t.v
def Ej (ks:List Mh):Nat->Prop:=fun q=>∃t∈ks,own t.a q
def GH (w:World)(ks:List Mh):Prop:=∀t∈ks,Af w 46 t.a t.c t.l∧t.l.length<=1000
def Qk (t:EZ):Nat->Prop:=fun q=>own t.ka q∨(own t.ca q∨(BP t.cs q∨(own t.ha q∨(own t.ma q∨Ej t.ms q))))
structure GP (w:World)(t:EZ):Prop where
 k:Af w 9 t.ka t.kc t.ks
 c:Af w 33 t.ca t.cc (t.cs.map Ct.c)
 cs:Db w t.cs
 h:Af w 110 t.ha t.hc t.hs
 m:Af w 28 t.ma t.mc (t.ms.map Mh.h)
 ms:GH w t.ms
 len:t.ks.length<=1000∧t.cs.length<=1000∧t.hs.length<=1000∧t.ms.length<=1000
def Ek (ts:List EZ):Nat->Prop:=fun q=>∃t∈ts,Qk t q
def D6 (w:World)(ts:List EZ):Prop:=∀t∈ts,GP w t
section
variable {w w':World}{S:Nat->Prop}{ks:List Ct}{ms:List Mh}{t:EZ}{ts:List EZ}
theorem Db.oL (h:Db w ks):∀q,BP ks q->q<w.heap.size:=fun q ⟨t,ht,hq⟩=>(h t ht).1.oL q hq
theorem Db.kO (h:Db w ks)(k:Ad S w w')(hn:∀q,BP ks q->¬S q):Db w' ks:=fun t ht=>⟨(h t ht).1.kO k fun q hq=>hn q ⟨t,ht,hq⟩,(h t ht).2⟩
theorem Db.ext (h:Db w ks)(k:Ap w w'):Db w' ks:=h.kO k fun _ _=>id
theorem Db.nil (w:World):Db w []:=fun _ h=>nomatch h
theorem Db.snoc {x:Ct}(h:Db w ks)(hx:Dr w x.s x.v)(hv:JT x.v):Db w (ks++[x]):=fun t ht=>by
 rcases List.mem_append.1 ht with ht|ht
 ·exact h t ht
 ·rw[Aah]at ht;subst ht;exact⟨hx,hv⟩
theorem Cv {x:Ct}:∀q,BP (ks++[x]) q->En x.s q∨BP ks q:=fun q ⟨t,ht,hq⟩=>by
 rcases List.mem_append.1 ht with ht|ht
 ·exact .inr ⟨t,ht,hq⟩
 ·rw[Aah]at ht;subst ht;exact .inl hq
theorem carts_nil :∀q,¬BP [] q:=fun _ ⟨_,h,_⟩=>nomatch h
theorem GH.oL (h:GH w ms):∀q,Ej ms q->q<w.heap.size:=fun q ⟨t,ht,hq⟩=>(h t ht).1.oL q hq
theorem GH.kO (h:GH w ms)(k:Ad S w w')(hn:∀q,Ej ms q->¬S q):GH w' ms:=fun t ht=>⟨(h t ht).1.kO k fun q hq=>hn q ⟨t,ht,hq⟩,(h t ht).2⟩
theorem GH.ext (h:GH w ms)(k:Ap w w'):GH w' ms:=h.kO k fun _ _=>id
theorem GH.nil (w:World):GH w []:=fun _ h=>nomatch h
theorem GH.snoc {x:Mh}(h:GH w ms)(hx:Af w 46 x.a x.c x.l)(hv:x.l.length<=1000):GH w (ms++[x]):=fun t ht=>by
 rcases List.mem_append.1 ht with ht|ht
 ·exact h t ht
 ·rw[Aah]at ht;subst ht;exact⟨hx,hv⟩
theorem DJ {x:Mh}:∀q,Ej (ms++[x]) q->own x.a q∨Ej ms q:=fun q ⟨t,ht,hq⟩=>by
 rcases List.mem_append.1 ht with ht|ht
 ·exact .inr ⟨t,ht,hq⟩
 ·rw[Aah]at ht;subst ht;exact .inl hq
theorem mhs_nil :∀q,¬Ej [] q:=fun _ ⟨_,h,_⟩=>nomatch h
theorem GP.oL (h:GP w t):∀q,Qk t q->q<w.heap.size:=by
 rintro q (hq|hq|hq|hq|hq|hq)
 ·exact h.k.oL q hq
 ·exact h.c.oL q hq
 ·exact h.cs.oL q hq
 ·exact h.h.oL q hq
 ·exact h.m.oL q hq
 ·exact h.ms.oL q hq
theorem GP.kO (h:GP w t)(k:Ad S w w')(hn:∀q,Qk t q->¬S q):GP w' t:=
 ⟨h.k.kO k fun q hq=>hn q (.inl hq),h.c.kO k fun q hq=>hn q (.inr (.inl hq)),h.cs.kO k fun q hq=>hn q (.inr (.inr (.inl hq))),h.h.kO k fun q hq=>hn q (.inr (.inr (.inr (.inl hq)))),h.m.kO k fun q hq=>hn q (.inr (.inr (.inr (.inr (.inl hq))))),h.ms.kO k fun q hq=>hn q (.inr (.inr (.inr (.inr (.inr hq))))),h.len⟩
theorem GP.ext (h:GP w t)(k:Ap w w'):GP w' t:=h.kO k fun _ _=>id
theorem D6.oL (h:D6 w ts):∀q,Ek ts q->q<w.heap.size:=fun q ⟨t,ht,hq⟩=>(h t ht).oL q hq
theorem D6.kO (h:D6 w ts)(k:Ad S w w')(hn:∀q,Ek ts q->¬S q):D6 w' ts:=fun t ht=>(h t ht).kO k fun q hq=>hn q ⟨t,ht,hq⟩
theorem D6.ext (h:D6 w ts)(k:Ap w w'):D6 w' ts:=h.kO k fun _ _=>id
theorem D6.one (h:GP w t):D6 w [t]:=fun u hu=>by rw[Aah]at hu;subst hu;exact h
theorem tols_one :∀q,Ek [t] q->Qk t q:=fun q ⟨u,hu,hq⟩=>by rw[Aah]at hu;subst hu;exact hq
theorem D6.snoc (h:D6 w ts)(ht:GP w t):D6 w (ts++[t]):=fun u hu=>by
 rcases List.mem_append.1 hu with hu|hu
 ·exact h u hu
 ·rw[Aah]at hu;subst hu;exact ht
theorem tols_snoc :∀q,Ek (ts++[t]) q->Qk t q∨Ek ts q:=fun q ⟨u,hu,hq⟩=>by
 rcases List.mem_append.1 hu with hu|hu
 ·exact .inr ⟨u,hu,hq⟩
 ·rw[Aah]at hu;subst hu;exact .inl hq
end
structure JB (s:KF)(t:EZ):Prop where
 k:∃l,Lm s l∧t.ks=BG l
 h:Hv s t.hs
 c:t.cs.map (fun x=>some (cv x.v))=t.ks.map fun k=>(s.c k).map cv
 m:t.ms.map (·.l)=t.ks.map s.m
theorem OY {α β : Type} {f : α -> β} : ∀ {l k : List α}, l.map (fun x => some (f x)) = k.map (fun x => some (f x)) -> l.map f = k.map f
  | [], [], _ => rfl
  | [], _ :: _, h => nomatch h
  | _ :: _, [], h => nomatch h
  | a :: l, b :: k, h => by
    rw [Aae, Aae, List.cons.injEq] at h
    rw [Aae, Aae, Option.some.inj h.1, OY h.2]
theorem JB.eq {s s':KF}{t u:EZ}(h:JB s t)(k:JB s' u)(e1:s.c=s'.c)(e2:s.m=s'.m)(e3:s.h=s'.h):t.p=u.p:=by
 obtain⟨l,hl,e4⟩:=h.k
 obtain⟨l',hl',e5⟩:=k.k
 have hks:t.ks=u.ks:=by
  rw[e4,e5]
  exact Kw ((List.perm_ext_iff_of_nodup hl.1 hl'.1).2 fun x=>by rw[hl.2,hl'.2,e1])
 have hcs:t.cs.map (fun x=>cv x.v)=u.cs.map (fun x=>cv x.v):=OY (f:=fun x:Ct=>cv x.v) (by rw[h.c,k.c,hks,e1])
 have hms:t.ms.map (·.l)=u.ms.map (·.l):=by rw[h.m,k.m,hks,e2]
 unfold EZ.p
 rw[hks,h.h.eq k.h e3,hcs,hms]
section
variable {α β:Type}{f:α->β}{a b:List α}{i:Nat}{x y:α}
theorem RG (h:¬a.length=b.length):¬a.map f=b.map f:=fun e=>h (by simpa using congrArg List.length e)
theorem eq0F :(a.map f).take 0=(b.map f).take 0:=rfl
theorem OZ (hx:a[i]? =some x)(hy:b[i]? =some y)(h:¬f x=f y):¬a.map f=b.map f:=fun e=>h (by
 have:=congrArg (fun l=>l[i]?) e
 simp only[Aax,hx,hy,AaH,Option.some.injEq]at this
 exact this)
theorem O0 (h:(a.map f).take i=(b.map f).take i)(hx:a[i]? =some x)(hy:b[i]? =some y)(e:f x=f y):(a.map f).take (i+1)=(b.map f).take (i+1):=by
 rw[List.take_add_one,List.take_add_one,h,Aax,Aax,hx,hy,AaH,AaH,e]
theorem RH (h:(a.map f).take i=(b.map f).take i)(h1:a.length<=i)(h2:a.length=b.length):a.map f=b.map f:=by
 rwa[AaA (by simpa using h1),AaA (by simpa using(show b.length<=i by omega))]at h
theorem GI {g:α->β}{z:β}(h:(a.map g)[i]? =some z):∃p,a[i]? =some p∧p∈a∧z=g p:=by
 rw[Aax,Abp]at h
 obtain⟨p,hp,rfl⟩:=h
 exact⟨p,hp,Aan hp,rfl⟩
end
theorem JC {a b:MV}:G6 a b=true↔cv a=cv b:=by
 unfold G6 M0 cv
 simp
theorem gu {a b:MV}(h:G6 a b=true):cv a=cv b:=JC.1 h
theorem gw {a b:MV}(h:¬G6 a b=true):¬cv a=cv b:=fun e=>h (JC.2 e)
theorem gx {t u:EZ}(h:t.p=u.p):(t.cs.map Ct.c).length=(u.cs.map Ct.c).length:=by
 have:=congrArg List.length (RF.1 h).2.1
 simpa using this
attribute [local irreducible] X
theorem Th (a b:MV)(s t:Ge)(w:World)(hR:Bf w s a)(hQ:Bf w t b)(hv:JT a):
  Calls prog 45 #[.agg #[.slice s.ma a.mrk.length s.mc,.slice s.ca a.cl.length s.cc],.agg #[.slice t.ma b.mrk.length t.mc,.slice t.ca b.cl.length t.cc]] w (AN (fun v w'=>v= .bool (M0 a b)∧Ap w w')):=by
 have hv0:=hv;obtain⟨hv1,hv2,hv3,hv4,hv5,hv6⟩:=hv;refine Ac (n:=17) func45 rfl rfl rfl ?_;refine jG ?_;refine jR<|jB ?_;intro a7 a9 a5 a0 a3;have:w.heap.size<=a7:=a5;clear a5;have K0:=(a3:Ap w _);refine jR<|jB ?_;intro aa ab a4 a6 a2;have ac:=Ak a0.lt a4;have:=Aaa K0.size a4;clear a4;replace a0:=a0.ext a2;refine jG ?_;replace hR:=(hR.ext a3).ext a2;replace hQ:=(hQ.ext a3).ext a2;refine jR<|jC (I4 _ _ _ _ _ _ _ hR.mrk hQ.mrk Zo) ?_;rintro _ ad ⟨rfl,a1⟩;replace a0:=a0.ext a1;replace a6:=a6.ext a1;refine jG ?_;replace hR:=hR.ext a1;replace hQ:=hQ.ext a1;refine RL.gcall (vals:=[.slice s.ca a.cl.length s.cc,.slice t.ca b.cl.length t.cc]) (BL rfl rfl rfl rfl) en84.h (fun hg=>(CR (BR hg) (CR (BR hg) Hw))) (fun hg=>(Q3 _ _ _ _ _ _ _ hR.cl hQ.cl Zo)) ?_;intro ae a8;refine jV (Be rfl rfl rfl) ?_;refine jG ?_;refine jJ func45 ?_;replace K0:=((K0.ext a2).ext a1).ext a8;exact⟨_,rfl,rfl,K0⟩
theorem Ql (a b:MV)(s t:Ge)(w:World)(hR:Bf w s a)(hQ:Bf w t b)(hv:JT a):
  Calls prog 12 #[.agg #[.slice s.ea a.ent.length s.ec,.slice s.ma a.mrk.length s.mc,.slice s.ca a.cl.length s.cc],.agg #[.slice t.ea b.ent.length t.ec,.slice t.ma b.mrk.length t.mc,.slice t.ca b.cl.length t.cc]] w (AN (fun v w'=>v= .bool (G6 a b)∧Ap w w')):=by
 have hv0:=hv;obtain⟨hv1,hv2,hv3,hv4,hv5,hv6⟩:=hv;refine Ac (n:=17) func12 rfl rfl rfl ?_;refine jG ?_;refine jR<|jB ?_;intro a7 a9 a5 a0 a3;have:w.heap.size<=a7:=a5;clear a5;have K0:=(a3:Ap w _);refine jR<|jB ?_;intro aa ab a4 a6 a2;have ac:=Ak a0.lt a4;have:=Aaa K0.size a4;clear a4;replace a0:=a0.ext a2;refine jG ?_;replace hR:=(hR.ext a3).ext a2;replace hQ:=(hQ.ext a3).ext a2;refine jR<|jC (Mb _ _ _ _ _ _ _ hR.ent hQ.ent Zo) ?_;rintro _ ad ⟨rfl,a1⟩;replace a0:=a0.ext a1;replace a6:=a6.ext a1;refine jG ?_;replace hR:=hR.ext a1;replace hQ:=hQ.ext a1;refine RL.gcall (vals:=[.agg #[.slice s.ma a.mrk.length s.mc,.slice s.ca a.cl.length s.cc],.agg #[.slice t.ma b.mrk.length t.mc,.slice t.ca b.cl.length t.cc]]) (BL rfl rfl rfl rfl) en45.h (fun hg=>(CR (BR hg) (CR (BR hg) Hw))) (fun hg=>(Th a b s t _ hR hQ hv0)) ?_;intro ae a8;refine jV (Be rfl rfl rfl) ?_;refine jG ?_;refine jJ func12 ?_;replace K0:=((K0.ext a2).ext a1).ext a8;exact⟨_,rfl,rfl,K0⟩
theorem VF (a:Option Addr)(ks:List Ct)(c:Nat)(d:Option Addr)(qs:List Ct)(e:Nat)(w:World)(hs:Av w a (ks.map Ct.c))(ht:Av w d (qs.map Ct.c))(hks:∀t∈ks,Bf w t.s t.v∧JT t.v)(hqs:∀t∈qs,Bf w t.s t.v∧JT t.v)(hl:ks.length<=1000):
  Calls prog 65 #[.slice a ((ks.map Ct.c).length) c,.slice d ((qs.map Ct.c).length) e,.func (.func 12) #[] #[]] w (AN (fun v w'=>v= .bool (decide (ks.map (fun x=>cv x.v)=qs.map (fun x=>cv x.v)))∧Ap w w')):=by
 have hkc:(ks.map Ct.c).length=ks.length:=Aad ..;have hqc:(qs.map Ct.c).length=qs.length:=Aad ..;refine Ac (n:=32) func65 rfl rfl rfl ?_;refine jG ?_;refine jF ?_ ?_
 ·intro hc14
  refine jG ?_;refine jJ func65 ?_;exact⟨_,rfl,by rw[decide_eq_false (RG Zo)],(Ad.refl _ w)⟩
 ·intro hc14
  refine jG ?_;refine Ai.loop (ι:=Nat) (fun i ρ' w'=>Holds ρ' [(1,.slice d ((qs.map Ct.c).length) e),(2,.func (.func 12) #[] #[]),(15,.slice a ((ks.map Ct.c).length) c),(16,.int .i64 (((ks.map Ct.c).length:Nat):Int)),(17,.int .i64 ((i:Nat):Int))]∧Ap w w'∧(i<=ks.length)∧((ks.map (fun x=>cv x.v)).take i=(qs.map (fun x=>cv x.v)).take i)) (fun i=>ks.length-i) 0 ?_ ?_
  ·refine⟨⟨rfl,rfl,rfl,rfl,rfl,trivial⟩,(Ad.refl _ w),?_,?_⟩
   ·omega
   ·exact eq0F
  rintro i ac ad ⟨a5,K0,hi,hno⟩ ih1;obtain⟨ρ₀,rfl⟩:=a5.ex;clear a5;refine jG ?_;refine jF ?_ ?_
  ·intro hc18
   obtain⟨ae,af,x1,hx1,ag,a0⟩:=hs.eo i;have hc_7_lt:=a0.lt;refine Em ?_;obtain⟨m,hmi,hmm,hme⟩:=GI (g:=Ct.c) hx1;replace a0:=a0.ext K0;refine jV (C7 (v':= .agg #[.slice m.s.ea m.v.ent.length m.s.ec,.slice m.s.ma m.v.mrk.length m.s.mc,.slice m.s.ca m.v.cl.length m.s.cc]) (BQ (v:= .agg #[.slice x1.entries.a x1.entries.len x1.entries.cap,.slice x1.ctx.marks.a x1.ctx.marks.len x1.ctx.marks.cap,.slice x1.ctx.cloud.a x1.ctx.cloud.len x1.ctx.cloud.cap]) (y:=x1) ty33 rfl a0 rfl) (by rw[hme];rfl)) ?_;refine jR<|jA ?_;intro ah ai a4 a1 a9;have aj:=Ak a0.lt a4;have:=Aaa K0.size a4;clear a4;refine jG ?_;refine jR<|jS a1 ?_;intro ak a1 aa;obtain⟨al,am,y1,hy1,an,a2⟩:=ht.eo i;have hc_21_lt:=a2.lt;replace K0:=(K0.ext a9).n1 aa;refine Em ?_;refine FW ?_;obtain⟨u,hui,hum,hue⟩:=GI (g:=Ct.c) hy1;replace a2:=a2.ext K0;refine jV (C7 (v':= .agg #[.slice u.s.ea u.v.ent.length u.s.ec,.slice u.s.ma u.v.mrk.length u.s.mc,.slice u.s.ca u.v.cl.length u.s.cc]) (BQ (v:= .agg #[.slice y1.entries.a y1.entries.len y1.entries.cap,.slice y1.ctx.marks.a y1.ctx.marks.len y1.ctx.marks.cap,.slice y1.ctx.cloud.a y1.ctx.cloud.len y1.ctx.cloud.cap]) (y:=y1) ty33 rfl a2 rfl) (by rw[hue];rfl)) ?_;refine jR<|jA ?_;intro ao ap a3 a6 a7;have aq:=Ak a1.lt a3;have ar:=Ak a2.lt a3;have:=Aaa K0.size a3;clear a3;refine jR<|jS a6 ?_;intro au a6 a8;replace a1:=(a1.ext a7).kp a8;refine jG ?_;replace K0:=(K0.ext a7).n1 a8;refine jR<|AA.callV (vals:=[.agg #[.slice m.s.ea m.v.ent.length m.s.ec,.slice m.s.ma m.v.mrk.length m.s.mc,.slice m.s.ca m.v.cl.length m.s.cc],.agg #[.slice u.s.ea u.v.ent.length u.s.ec,.slice u.s.ma u.v.mrk.length u.s.mc,.slice u.s.ca u.v.cl.length u.s.cc]]) en12.h rfl rfl (Ql m.v u.v m.s u.s _ ((hks m hmm).1.ext K0) ((hqs u hum).1.ext K0) (hks m hmm).2) ?_;rintro _ av ⟨rfl,ab⟩;refine jG ?_;replace K0:=K0.ext ab;refine jF ?_ ?_
   ·intro hc30
    refine jG ?_;refine jJ func65 ?_;exact⟨_,rfl,by rw[decide_eq_false (OZ (f:=fun x:Ct=>cv x.v) hmi hui (gw (by simpa using hc30)))],K0⟩
   ·intro hc30
    refine jG ?_;refine jV (Az (c:=((i+1:Nat):Int)) (Au rfl rfl Zo Zo) rfl) ?_;refine jG ?_;refine ih1 (i+1) _ _ ?_ Zo;refine⟨⟨rfl,rfl,rfl,rfl,rfl,trivial⟩,K0,?_,?_⟩
    ·omega
    ·exact O0 hno hmi hui (gu (by simpa using hc30))
  ·intro hc18
   refine jG ?_;refine jJ func65 ?_;exact⟨_,rfl,by rw[decide_eq_true (RH (f:=fun x:Ct=>cv x.v) hno Zo Zo)],K0⟩
theorem VG (a:Option Addr)(ks:List Mh)(c:Nat)(d:Option Addr)(qs:List Mh)(e:Nat)(w:World)(hs:Av w a (ks.map Mh.h))(ht:Av w d (qs.map Mh.h))(hks:∀t∈ks,Av w t.a t.l∧t.l.length<=1000)(hqs:∀t∈qs,Av w t.a t.l∧t.l.length<=1000)(hl:ks.length<=1000):
  Calls prog 66 #[.slice a ((ks.map Mh.h).length) c,.slice d ((qs.map Mh.h).length) e,.func (.func 67) #[] #[]] w (AN (fun v w'=>v= .bool (decide (ks.map (·.l)=qs.map (·.l)))∧Ap w w')):=by
 have hkc:(ks.map Mh.h).length=ks.length:=Aad ..;have hqc:(qs.map Mh.h).length=qs.length:=Aad ..;refine Ac (n:=32) func66 rfl rfl rfl ?_;refine jG ?_;refine jF ?_ ?_
 ·intro hc14
  refine jG ?_;refine jJ func66 ?_;exact⟨_,rfl,by rw[decide_eq_false (RG Zo)],(Ad.refl _ w)⟩
 ·intro hc14
  refine jG ?_;refine Ai.loop (ι:=Nat) (fun i ρ' w'=>Holds ρ' [(1,.slice d ((qs.map Mh.h).length) e),(2,.func (.func 67) #[] #[]),(15,.slice a ((ks.map Mh.h).length) c),(16,.int .i64 (((ks.map Mh.h).length:Nat):Int)),(17,.int .i64 ((i:Nat):Int))]∧Ap w w'∧(i<=ks.length)∧((ks.map (·.l)).take i=(qs.map (·.l)).take i)) (fun i=>ks.length-i) 0 ?_ ?_
  ·refine⟨⟨rfl,rfl,rfl,rfl,rfl,trivial⟩,(Ad.refl _ w),?_,?_⟩
   ·omega
   ·exact eq0F
  rintro i a4 a5 ⟨a2,K0,hi,hno⟩ ih1;obtain⟨ρ₀,rfl⟩:=a2.ex;clear a2;refine jG ?_;refine jF ?_ ?_
  ·intro hc18
   obtain⟨a6,a7,x1,hx1,a8,a0⟩:=hs.eo i;have hc_7_lt:=a0.lt;refine Em ?_;obtain⟨m,hmi,hmm,hme⟩:=GI (g:=Mh.h) hx1;replace a0:=a0.ext K0;refine jV (C7 (v':= .slice m.a m.l.length m.c) (BQ (v:= .slice x1.a x1.len x1.cap) (y:=x1) ty28 rfl a0 rfl) (by rw[hme];rfl)) ?_;obtain⟨a9,aa,y1,hy1,ab,a1⟩:=ht.eo i;have hc_13_lt:=a1.lt;refine H7 ?_;refine FW ?_;obtain⟨u,hui,hum,hue⟩:=GI (g:=Mh.h) hy1;replace a1:=a1.ext K0;refine jV (C7 (v':= .slice u.a u.l.length u.c) (BQ (v:= .slice y1.a y1.len y1.cap) (y:=y1) ty28 rfl a1 rfl) (by rw[hue];rfl)) ?_;have hml9:=(hks m hmm).2;refine jG ?_;refine jR<|AA.callV (vals:=[.slice m.a m.l.length m.c,.slice u.a u.l.length u.c]) en67.h rfl rfl (I4 _ _ _ _ _ _ _ ((hks m hmm).1.ext K0) ((hqs u hum).1.ext K0) Zo) ?_;rintro _ ac ⟨rfl,a3⟩;refine jG ?_;replace K0:=K0.ext a3;refine jF ?_ ?_
   ·intro hc30
    refine jG ?_;refine jJ func66 ?_;exact⟨_,rfl,by rw[decide_eq_false (OZ (f:=fun x:Mh=>x.l) hmi hui (by simpa using hc30))],K0⟩
   ·intro hc30
    refine jG ?_;refine jV (Az (c:=((i+1:Nat):Int)) (Au rfl rfl Zo Zo) rfl) ?_;refine jG ?_;refine ih1 (i+1) _ _ ?_ Zo;refine⟨⟨rfl,rfl,rfl,rfl,rfl,trivial⟩,K0,?_,?_⟩
    ·omega
    ·exact O0 hno hmi hui (by simpa using hc30)
  ·intro hc18
   refine jG ?_;refine jJ func66 ?_;exact⟨_,rfl,by rw[decide_eq_true (RH (f:=fun x:Mh=>x.l) hno Zo Zo)],K0⟩
theorem Qm (a:Option Addr)(xs:List ByteArray)(c:Nat)(d:Option Addr)(ys:List ByteArray)(e:Nat)(w:World)(hs:Av w a xs)(ht:Av w d ys)(hl:xs.length<=4294967295):
  Calls prog 63 #[.slice a xs.length c,.slice d ys.length e] w (AN (fun v w'=>v= .bool (decide (xs=ys))∧Ap w w')):=by
 refine Ac (n:=26) func63 rfl rfl rfl ?_;refine jG ?_;refine jF ?_ ?_
 ·intro hc10
  refine jG ?_;refine jJ func63 ?_;exact⟨_,rfl,by rw[decide_eq_false (fun h=>hc10 (by rw[h]))],(Ad.refl _ w)⟩
 ·intro hc10
  have hlen:xs.length=ys.length:=by omega
  refine jG ?_;refine Ai.loop (ι:=Nat) (fun i ρ' w'=>Holds ρ' [(0,.slice a xs.length c),(1,.slice d ys.length e),(12,.int .i64 ((xs.length:Nat):Int)),(13,.int .i64 ((i:Nat):Int))]∧Ap w w'∧(i<=xs.length)∧(ED xs ys i)) (fun i=>xs.length-i) 0 ?_ ?_
  ·refine⟨⟨rfl,rfl,rfl,rfl,trivial⟩,(Ad.refl _ w),?_,?_⟩
   ·omega
   ·exact ED.zero _ _
  rintro i a4 a5 ⟨a3,K0,hi,hno⟩ ih1;obtain⟨ρ₀,rfl⟩:=a3.ex;clear a3;refine jG ?_;refine jF ?_ ?_
  ·intro hc14
   refine jG ?_;obtain⟨a6,a7,x,hx,a8,a0⟩:=hs.eo i;have hc_9_lt:=a0.lt;obtain⟨a9,aa,y,hy,ab,a1⟩:=ht.eo i;have hc_15_lt:=a1.lt;refine Ai.drawR ?_;intro ac a2;replace a0:=(a0.ext K0).ext a2;replace a1:=(a1.ext K0).ext a2;refine jG ?_;refine jD (Qy rfl rfl) ?_;refine jG ?_;replace K0:=K0.ext a2;refine jF ?_ ?_
   ·intro hc24
    refine jG ?_;refine jJ func63 ?_;exact⟨_,rfl,by rw[decide_eq_false (GV hx hy hc24)],K0⟩
   ·intro hc24
    refine jG ?_;refine jV (Az (c:=((i+1:Nat):Int)) (Au rfl rfl Zo Zo) rfl) ?_;refine jG ?_;refine ih1 (i+1) _ _ ?_ Zo;refine⟨⟨rfl,rfl,rfl,rfl,trivial⟩,K0,?_,?_⟩
    ·omega
    ·exact hno.step hx hy hc24
  ·intro hc14
   refine jG ?_;refine jJ func63 ?_;exact⟨_,rfl,by rw[decide_eq_true (hno.all hlen Zo)],K0⟩
theorem O1 (a:Option Addr)(xs:List AH)(c:Nat)(d:Option Addr)(ys:List AH)(e:Nat)(w:World)(hs:Av w a xs)(ht:Av w d ys)(hl:xs.length<=4294967295):
  Calls prog 64 #[.slice a xs.length c,.slice d ys.length e] w (AN (fun v w'=>v= .bool (decide (xs=ys))∧Ap w w')):=by
 refine Ac (n:=26) func64 rfl rfl rfl ?_;refine jG ?_;refine jF ?_ ?_
 ·intro hc10
  refine jG ?_;refine jJ func64 ?_;exact⟨_,rfl,by rw[decide_eq_false (fun h=>hc10 (by rw[h]))],(Ad.refl _ w)⟩
 ·intro hc10
  have hlen:xs.length=ys.length:=by omega
  refine jG ?_;refine Ai.loop (ι:=Nat) (fun i ρ' w'=>Holds ρ' [(0,.slice a xs.length c),(1,.slice d ys.length e),(12,.int .i64 ((xs.length:Nat):Int)),(13,.int .i64 ((i:Nat):Int))]∧Ap w w'∧(i<=xs.length)∧(ED xs ys i)) (fun i=>xs.length-i) 0 ?_ ?_
  ·refine⟨⟨rfl,rfl,rfl,rfl,trivial⟩,(Ad.refl _ w),?_,?_⟩
   ·omega
   ·exact ED.zero _ _
  rintro i a4 a5 ⟨a3,K0,hi,hno⟩ ih1;obtain⟨ρ₀,rfl⟩:=a3.ex;clear a3;refine jG ?_;refine jF ?_ ?_
  ·intro hc14
   refine jG ?_;obtain⟨a6,a7,x,hx,a8,a0⟩:=hs.eo i;have hc_9_lt:=a0.lt;obtain⟨a9,aa,y,hy,ab,a1⟩:=ht.eo i;have hc_15_lt:=a1.lt;refine Ai.drawR ?_;intro ac a2;replace a0:=(a0.ext K0).ext a2;replace a1:=(a1.ext K0).ext a2;refine jG ?_;refine jD (Jg Zk rfl rfl (OS x y)) ?_;refine jG ?_;replace K0:=K0.ext a2;refine jF ?_ ?_
   ·intro hc24
    refine jG ?_;refine jJ func64 ?_;exact⟨_,rfl,by rw[decide_eq_false (GV hx hy hc24)],K0⟩
   ·intro hc24
    refine jG ?_;refine jV (Az (c:=((i+1:Nat):Int)) (Au rfl rfl Zo Zo) rfl) ?_;refine jG ?_;refine ih1 (i+1) _ _ ?_ Zo;refine⟨⟨rfl,rfl,rfl,rfl,trivial⟩,K0,?_,?_⟩
    ·omega
    ·exact hno.step hx hy hc24
  ·intro hc14
   refine jG ?_;refine jJ func64 ?_;exact⟨_,rfl,by rw[decide_eq_true (hno.all hlen Zo)],K0⟩
theorem Zz (t u:EZ)(w:World)(hT:GP w t)(hU:GP w u):
  Calls prog 23 #[.agg #[.slice t.ka t.ks.length t.kc,.slice t.ca ((t.cs.map Ct.c).length) t.cc,.slice t.ha t.hs.length t.hc,.slice t.ma ((t.ms.map Mh.h).length) t.mc],.agg #[.slice u.ka u.ks.length u.kc,.slice u.ca ((u.cs.map Ct.c).length) u.cc,.slice u.ha u.hs.length u.hc,.slice u.ma ((u.ms.map Mh.h).length) u.mc]] w (AN (fun v w'=>v= .bool (decide (t.p=u.p))∧Ap w w')):=by
 obtain⟨hl1,hl2,hl3,hl4⟩:=hT.len;obtain⟨hk1,hk2,hk3,hk4⟩:=hU.len;have hm1:(t.cs.map Ct.c).length=t.cs.length:=Aad ..;have hm2:(u.cs.map Ct.c).length=u.cs.length:=Aad ..;refine Ac (n:=40) func23 rfl rfl rfl ?_;refine jG ?_;refine jR<|jB ?_;intro a8 ab a6 a0 a9;have:w.heap.size<=a8:=a6;clear a6;have K0:=(a9:Ap w _);refine jR<|jB ?_;intro ac ad a2 a1 a7;have ae:=Ak a0.lt a2;have:=Aaa K0.size a2;clear a2;replace a0:=a0.ext a7;refine jG ?_;replace K0:=K0.ext a7;refine jR<|jC (Qm _ _ _ _ _ _ _ (hT.ext K0).k.sl (hU.ext K0).k.sl Zo) ?_;rintro _ af ⟨rfl,a3⟩;replace a0:=a0.ext a3;replace a1:=a1.ext a3;refine jG ?_;replace K0:=K0.ext a3;refine RL.gcall (vals:=[.slice t.ha t.hs.length t.hc,.slice u.ha u.hs.length u.hc]) (BZ rfl rfl rfl rfl) en64.h (fun hg=>(CR (BR hg) (CR (BR hg) Hw))) (fun hg=>(O1 _ _ _ _ _ _ _ (hT.ext K0).h.sl (hU.ext K0).h.sl Zo)) ?_;intro ag a4;refine jG ?_;refine jV (D8 rfl rfl rfl) ?_;replace a0:=a0.ext a4;replace a1:=a1.ext a4;refine jG ?_;refine jV (D8 rfl rfl rfl) ?_;refine jG ?_;replace K0:=K0.ext a4;refine jF ?_ ?_
 ·intro hc27
  refine jG ?_;refine jJ func23 ?_;exact⟨_,rfl,congrArg Value.bool (decide_eq_false (fun e_:t.p=u.p=>by have h1_:=gx e_;have h2_:=(RF.1 e_).1;rcases hc27 with(h_|h_)|h_;exact h_ h2_.1;exact h_ h2_.2;exact h_ (by rw[h1_]))).symm,K0⟩
 ·intro hc27
  refine jG ?_;refine jR<|jC (VF _ t.cs _ _ u.cs _ _ (hT.ext K0).c.sl (hU.ext K0).c.sl (fun x hx=>⟨((hT.ext K0).cs x hx).1.r,((hT.ext K0).cs x hx).2⟩) (fun x hx=>⟨((hU.ext K0).cs x hx).1.r,((hU.ext K0).cs x hx).2⟩) hT.len.2.1) ?_;rintro _ ah ⟨rfl,a5⟩;replace a0:=a0.ext a5;replace a1:=a1.ext a5;refine jG ?_;replace K0:=K0.ext a5;refine RL.gcall (vals:=[.slice t.ma ((t.ms.map Mh.h).length) t.mc,.slice u.ma ((u.ms.map Mh.h).length) u.mc,.func (.func 67) #[] #[]]) (BL rfl rfl rfl rfl) en66.h (fun hg=>(CR (BR hg) (CR (BR hg) (CR rfl Hw)))) (fun hg=>(VG _ t.ms _ _ u.ms _ _ (hT.ext K0).m.sl (hU.ext K0).m.sl (fun x hx=>⟨((hT.ext K0).ms x hx).1.sl,((hT.ext K0).ms x hx).2⟩) (fun x hx=>⟨((hU.ext K0).ms x hx).1.sl,((hU.ext K0).ms x hx).2⟩) hT.len.2.2.2)) ?_;intro ai aa;refine jV (Be rfl rfl rfl) ?_;refine jG ?_;refine jJ func23 ?_;replace K0:=K0.ext aa;exact⟨_,rfl,congrArg Value.bool (by have h3_:t.ks=u.ks∧t.hs=u.hs:=(by simp at hc27;exact hc27.1);rw[AaC,decide_eq_true_eq,RF];simp[h3_.1,h3_.2]),K0⟩
end Go.Proofs.YtjkaicjmfgekjaaGreatDoor
namespace Go.Proofs.YtjkaicjmfgekjaaGreatDoor
open Go.Proofs.Tryz
attribute [local irreducible] RD RS AA RL RA RT Cz Ai AC DQ Cp BH Bz B4 Cb D4 Cj itemsN BW AO Br BK Gr AP A4 Ar Ck As A1 Ay A5 EM AW AK Cy setM Ax Ao
theorem O2 {α β γ:Type}{F:α->γ}{G:β->γ}{cs:List α}{xs:List β}{i:Nat}{x:α}{k:β}(h:xs[i]? =some k)(e:cs.map F=(xs.take i).map G)(hx:F x=G k):(cs++[x]).map F=(xs.take (i+1)).map G:=by
 rw[Aam,e,Da h,Aam,Aae,Aae,hx];rfl
theorem J5 {α β γ:Type}{F:α->γ}{G:β->γ}{cs:List α}{xs:List β}{i:Nat}(e:cs.map F=(xs.take i).map G)(h:i<=xs.length):cs.length=i:=by
 have:=congrArg List.length e
 rw[Aad,Aad,List.length_take]at this;omega
theorem O3 {α β γ:Type}{F:α->γ}{G:β->γ}{cs:List α}{xs:List β}{i:Nat}(e:cs.map F=(xs.take i).map G)(h:xs.length<=i):cs.map F=xs.map G:=by
 rw[e,AaA h]
theorem O4 {s:KF}{l:List ByteArray}{n:Nat}(h:Lm s l)(hf:IE s n):(BG l).length<=n:=by
 obtain⟨l0,h1,h2⟩:=hf.c
 have:=IF (k:=l0) h.1 fun x hx=>h2 x ((h.2 x).1 hx)
 rw[Cf.length_eq];omega
theorem VH {s:KF}{l:List ByteArray}{i:Nat}{key:ByteArray}(h:Lm s l)(hk:(BG l)[i]? =some key):s.c key≠none:=(h.2 key).1 (Cf.mem_iff.1 (Aan hk))
attribute [local irreducible] X
theorem Qn (b d:Nat)(Z:Nat->Prop)(pl:List PF)(sk:KF)(n:Nat)(w:World)(hS:GN w b d Z pl sk)(hL:A2 w)(hZG:∀q,Z q->7<=q)(hG:FK sk)(hf:IE sk n)(hn:n<=1000):
  Calls prog 16 #[jp b] w (AN (fun r w'=>∃t:EZ,r= .agg #[.slice t.ka t.ks.length t.kc,.slice t.ca (t.cs.map Ct.c).length t.cc,.slice t.ha t.hs.length t.hc,.slice t.ma (t.ms.map Mh.h).length t.mc]∧GN w' b d Z pl sk∧Ad Z w w'∧GP w' t∧(∀q,Qk t q->w.heap.size<=q)∧JB sk t)):=by
 have hLs:=hL.size;refine Ac (n:=42) func16 rfl rfl rfl ?_;refine jG ?_;refine jR<|jA ?_;intro a9 d1 aH a1 aI;have aA:=An hS.oL aH;have:w.heap.size<=a9:=aH;clear aH;have K0:=(aI:Ap w _).to (S:=Z);refine jG ?_;replace hS:=hS.ext aI;replace hL:=hL.ext aI;refine jR<|jC (gp hS hL hG hf hn) ?_;rintro _ d2 ⟨aZ,aJ,l9,ka9,kc9,hKO,rfl,a2,aC⟩;have aK:=Ah aC hS.oL;have bz:=Aw aC a1.lt;have bA:=Bd K0.size aC;clear aC;replace K0:=K0.trans aJ (fun x hlt hx=>(fun q_ h_ _=>h_) x hx hlt);replace hS:=aZ;clear aZ;refine jG ?_;replace hL:=hL.keep aJ hZG;refine jR<|jC (Zy hS hL hG hf hn) ?_;rintro _ d3 ⟨b0,aD,ha9,hc9,hl9,hHO,hHn,rfl,a3,aE⟩;have b1:=Ah aE hS.oL;replace a1:=a1.keep aJ aA;have bB:=Aw aE a1.lt;have bC:=Bd K0.size aE;clear aE;replace K0:=K0.trans aD (fun x hlt hx=>(fun q_ h_ _=>h_) x hx hlt);replace hS:=b0;clear b0;refine jV (AI (cells:=#[.slice ka9 ((BG l9).length) kc9,.slice none 0 0,.slice ha9 hl9.length hc9,.slice none 0 0]) Zk) ?_;refine jR<|jA ?_;intro ac d4 av a0 aw;replace a1:=a1.keep aD aA;have d5:=Ak a1.lt av;have aB:=An hS.oL av;replace a2:=a2.kO aD aK;have aL:=An a2.oL av;have aM:=An a3.oL av;have:=Aaa K0.size av;clear av;refine jR<|jS a0 ?_;intro ax a0 ay;replace K0:=K0.ext aw;replace K0:=K0.n1 ay;have hkl9:=O4 hKO hf;have hC:Db ax ([]:List Ct):=Db.nil ax;have hMs:GH ax ([]:List Mh):=GH.nil ax;refine jG ?_;replace hL:=((hL.keep aD hZG).ext aw).keep ay Zw;replace hS:=(hS.ext aw).kO ay (Aa aB);replace a1:=(a1.ext aw).kp ay;replace a2:=(a2.ext aw).kO ay (Aa aL);replace a3:=(a3.ext aw).kO ay (Aa aM);refine Ai.loop (ι:=Nat) (fun i ρ' w'=>∃cs:List Ct,∃ms:List Mh,∃ca:Option Addr,∃cc:Nat,∃ma:Option Addr,∃mc:Nat,Holds ρ' [(0,jp b),(2,jp a9),(3,jp ac),(14,.slice ka9 ((BG l9).length) kc9),(15,.int .i64 (((BG l9).length:Nat):Int)),(16,.int .i64 ((i:Nat):Int))]∧Ad Z w w'∧(A2 w')∧(AB w' a9 [.slice none 0 0,.slice none 0 0,.slice none 0 0,.slice none 0 0] 55)∧(AB w' ac [.slice ka9 ((BG l9).length) kc9,.slice ca ((cs.map Ct.c).length) cc,.slice ha9 hl9.length hc9,.slice ma ((ms.map Mh.h).length) mc] 55)∧(GN w' b d Z pl sk)∧(Af w' 9 ka9 kc9 (BG l9))∧(Af w' 110 ha9 hc9 hl9)∧(Db w' cs)∧(GH w' ms)∧(Af w' 33 ca cc (cs.map Ct.c))∧(Af w' 28 ma mc (ms.map Mh.h))∧(¬BP cs a9)∧(¬BP cs ac)∧(∀q_,BP cs q_->¬Z q_)∧(∀q_,BP cs q_->¬own ka9 q_)∧(∀q_,BP cs q_->¬own ha9 q_)∧(∀q_,BP cs q_->¬Ej ms q_)∧(∀q_,BP cs q_->¬own ca q_)∧(∀q_,BP cs q_->¬own ma q_)∧(∀q_,BP cs q_->q_<w.heap.size->Z q_)∧(¬Ej ms a9)∧(¬Ej ms ac)∧(∀q_,Ej ms q_->¬Z q_)∧(∀q_,Ej ms q_->¬own ka9 q_)∧(∀q_,Ej ms q_->¬own ha9 q_)∧(∀q_,Ej ms q_->¬own ca q_)∧(∀q_,Ej ms q_->¬own ma q_)∧(∀q_,Ej ms q_->q_<w.heap.size->Z q_)∧(¬own ca a9)∧(¬own ca ac)∧(∀q_,own ca q_->¬Z q_)∧(∀q_,own ca q_->¬own ka9 q_)∧(∀q_,own ca q_->¬own ha9 q_)∧(∀q_,own ca q_->¬own ma q_)∧(∀q_,own ca q_->q_<w.heap.size->Z q_)∧(¬own ma a9)∧(¬own ma ac)∧(∀q_,own ma q_->¬Z q_)∧(∀q_,own ma q_->¬own ka9 q_)∧(∀q_,own ma q_->¬own ha9 q_)∧(∀q_,own ma q_->q_<w.heap.size->Z q_)∧(∀q_,BP cs q_->w.heap.size<=q_)∧(∀q_,Ej ms q_->w.heap.size<=q_)∧(∀q_,own ca q_->w.heap.size<=q_)∧(∀q_,own ma q_->w.heap.size<=q_)∧(i<=(BG l9).length)∧(cs.map (fun x=>some (cv x.v))=((BG l9).take i).map fun k=>(sk.c k).map cv)∧(ms.map (·.l)=((BG l9).take i).map sk.m)) (fun i=>(BG l9).length-i) 0 ?_ ?_
 ·have bD:=Af.nil (α:=Ba) ax 33
  have bE:=Af.nil (α:=SH) ax 28;refine⟨([]:List Ct),([]:List Mh),_,_,_,_,⟨rfl,rfl,rfl,rfl,rfl,rfl,trivial⟩,K0,hL,a1,a0,hS,a2,a3,hC,hMs,bD,bE,(fun h_=>carts_nil _ h_),(fun h_=>carts_nil _ h_),(fun q_ h_ _=>carts_nil q_ h_),(fun q_ h_ _=>carts_nil q_ h_),(fun q_ h_ _=>carts_nil q_ h_),(fun q_ h1 h2=>(fun q_ h_ _=>mhs_nil q_ h_) q_ h2 h1),(fun q_ h1 h2=>(fun q_ h1 _=>Ae q_ h1) q_ h2 h1),(fun q_ h1 h2=>(fun q_ h1 _=>Ae q_ h1) q_ h2 h1),(fun q_ h_ _=>(carts_nil q_ h_).elim),(fun h_=>mhs_nil _ h_),(fun h_=>mhs_nil _ h_),(fun q_ h_ _=>mhs_nil q_ h_),(fun q_ h_ _=>mhs_nil q_ h_),(fun q_ h_ _=>mhs_nil q_ h_),(fun q_ h1 h2=>(fun q_ h1 _=>Ae q_ h1) q_ h2 h1),(fun q_ h1 h2=>(fun q_ h1 _=>Ae q_ h1) q_ h2 h1),(fun q_ h_ _=>(mhs_nil q_ h_).elim),(Ae a9),(Ae ac),(fun q_ h1 _=>Ae q_ h1),(fun q_ h1 _=>Ae q_ h1),(fun q_ h1 _=>Ae q_ h1),(fun q_ h1 h2=>(fun q_ h1 _=>Ae q_ h1) q_ h2 h1),(fun q_ h1 _=>absurd h1 (Ae q_)),(Ae a9),(Ae ac),(fun q_ h1 _=>Ae q_ h1),(fun q_ h1 _=>Ae q_ h1),(fun q_ h1 _=>Ae q_ h1),(fun q_ h1 _=>absurd h1 (Ae q_)),(fun q_ h_=>(carts_nil q_ h_).elim),(fun q_ h_=>(mhs_nil q_ h_).elim),(fun q_ h1=>absurd h1 (Ae q_)),(fun q_ h1=>absurd h1 (Ae q_)),?_,?_,?_⟩
  ·omega
  ·rfl
  ·rfl
 clear hS a1 a2 a3 a0 hC hMs;clear K0;rintro i d6 d7 ⟨cs,ms,ca,cc,ma,mc,b2,K0,hL,a1,a0,hS,a2,a3,a4,a5,ap,a6,b3,aN,aO,bF,bG,bH,b4,b5,bI,b6,aP,aQ,bJ,bK,b7,b8,bL,aR,b9,aS,ba,bb,bc,be,aT,aU,aF,bg,bh,bi,bj,bk,aV,aW,hi,hcl,hml⟩ ih1;obtain⟨ρ₀,rfl⟩:=b2.ex;clear b2;refine jG ?_;refine jF ?_ ?_
 ·intro hc17
  have hcs9:=J5 hcl hi;have hms9:=J5 hml hi;have hcl9:(cs.map Ct.c).length=cs.length:=Aad ..;have hml9:(ms.map Mh.h).length=ms.length:=Aad ..;obtain⟨d8,d9,key,hk,da,db⟩:=a2.sl.eo i;refine jG ?_;refine jR<|jC (gQ (key:=key) hS hL) ?_;rintro _ dc ⟨bl,aq,bM⟩;rcases bM with⟨hg0,rfl⟩|⟨v9,hgv,s9,rfl,hO9,hA9,hg9,hvo9⟩
  ·exact absurd hg0 (VH hKO hk)
  ·have bN:=Aw hg9 a1.lt
   have aX:=Aw hg9 a0.lt;have bm:=Ah hg9 hS.oL;have bO:=Ah hg9 a2.oL;have bP:=Ah hg9 a3.oL;have bQ:=Ah hg9 a5.oL;have bn:=Ah hg9 ap.oL;have bo:=Ah hg9 a6.oL;have bR:∀q_,En s9 q_->q_<w.heap.size->Z q_:=Hx K0.size hg9;have bS:=Bd K0.size hg9;replace K0:=K0.trans aq (fun x hlt hx=>(fun q_ h_ _=>h_) x hx hlt);replace hS:=bl;clear bl;refine jG ?_;refine jR<|jA ?_;intro dd de ad bp ae;replace a1:=a1.keep aq aA;have df:=Ak a1.lt ad;replace a0:=a0.keep aq aB;have dg:=Ak a0.lt ad;have bT:=An hS.oL ad;replace a2:=a2.kO aq aK;have bU:=An a2.oL ad;replace a3:=a3.kO aq b1;have bV:=An a3.oL ad;replace a4:=a4.kO aq aO;have bW:=An a4.oL ad;replace a5:=a5.kO aq aQ;have bX:=An a5.oL ad;replace ap:=ap.kO aq aS;have bY:=An ap.oL ad;replace a6:=a6.kO aq aF;have bZ:=An a6.oL ad;have c0:=An hO9.oL ad;have:=Aaa K0.size ad;clear ad;refine jR<|jS bp ?_;intro dh bp af;replace K0:=K0.ext ae;replace K0:=K0.n1 af;replace a0:=(a0.ext ae).kp af;refine jG ?_;refine jR<|AA.buildSlice ([(⟨⟨s9.ea,v9.ent.length,s9.ec⟩,(⟨⟨s9.ma,v9.mrk.length,s9.mc⟩,⟨s9.ca,v9.cl.length,s9.cc⟩⟩:PE)⟩:Ba)]:List Ba) underlying22 ty33 rfl rfl Ze ?_;intro di dj c1 c2 ag;clear c1;replace ap:=((ap.ext ae).kO af (Aa bY)).ext ag;refine jR<|AA.append (xs:=cs.map Ct.c) (ys:=([(⟨⟨s9.ea,v9.ent.length,s9.ec⟩,(⟨⟨s9.ma,v9.mrk.length,s9.mc⟩,⟨s9.ca,v9.cl.length,s9.cc⟩⟩:PE)⟩:Ba)]:List Ba)) underlying22 ty33 rfl rfl rfl ap c2.sl Zr Zd ?_;intro a7 dk dl ar am ah c3;replace a1:=((a1.ext ae).kp af).ext ag;have c4:¬own a7 a9:=ah.not aR a1.lt;replace a0:=a0.ext ag;have aY:¬own a7 ac:=ah.not b9 a0.lt;replace hS:=((hS.ext ae).kO af (Aa bT)).ext ag;have bq:∀q_,own a7 q_->¬Z q_:=ah.apart aS hS.oL;replace a2:=((a2.ext ae).kO af (Aa bU)).ext ag;have c5:∀q_,own a7 q_->¬own ka9 q_:=ah.apart ba a2.oL;replace a3:=((a3.ext ae).kO af (Aa bV)).ext ag;have c6:∀q_,own a7 q_->¬own ha9 q_:=ah.apart bb a3.oL;replace a4:=((a4.ext ae).kO af (Aa bW)).ext ag;have c7:∀q_,own a7 q_->¬BP cs q_:=ah.apart (Zf b4) a4.oL;replace a5:=((a5.ext ae).kO af (Aa bX)).ext ag;have c8:∀q_,own a7 q_->¬Ej ms q_:=ah.apart (Zf b7) a5.oL;replace a6:=((a6.ext ae).kO af (Aa bZ)).ext ag;have bs:∀q_,own a7 q_->¬own ma q_:=ah.apart bc a6.oL;replace hO9:=((hO9.ext ae).kO af (Aa c0)).ext ag;have c9:∀q_,own a7 q_->¬En s9 q_:=ah.apart (Zf bn) hO9.oL;replace K0:=K0.ext ag;have cb:∀q_,own a7 q_->q_<w.heap.size->Z q_:=ah.inS be K0.size;have cd:∀q_,own a7 q_->w.heap.size<=q_:=ah.ge aV K0.size;replace K0:=K0.trans am (fun x hlt hx=>be x hx hlt);clear ah;clear c3;refine jG ?_;replace a0:=a0.keep am b9;refine jR<|jS a0 ?_;intro dm a0 an;replace K0:=K0.n1 an;refine jG ?_;refine Ai.drawS [8] [0,1001,2,3,2004,2005,2006,7,2008] ?_;intro dn ai;replace a0:=a0.ext ai;refine jM (jb a0 Jn) ?_;refine jG ?_;replace hL:=((((((hL.keep aq hZG).ext ae).keep af Zw).ext ag).keep am (fun q_ hq_=>Aaa hLs (aV q_ hq_))).keep an Zw).ext ai;replace hS:=((hS.kO am (Zf aS)).kO an (Aa aB)).ext ai;refine jU rfl<|jC (gn (key:=key) hS hL) ?_;rintro _ dp ⟨bt,ao,ra9,rc9,rfl,az,aj⟩;replace a1:=((a1.keep am aR).kp an).ext ai;have ce:=Aw aj a1.lt;have bu:=Aw aj a0.lt;have cf:=Ah aj hS.oL;replace a2:=((a2.kO am (Zf ba)).kO an (Aa aL)).ext ai;have cg:=Ah aj a2.oL;replace a3:=((a3.kO am (Zf bb)).kO an (Aa aM)).ext ai
   have ch:=Ah aj a3.oL;replace a4:=((a4.kO am b4).kO an (Aa aN)).ext ai;have ci:=Ah aj a4.oL;replace a6:=((a6.kO am (Zf bc)).kO an (Aa aU)).ext ai;have bv:=Ah aj a6.oL;replace hO9:=((hO9.kO am bn).kO an (Aa aX)).ext ai;have cj:=Ah aj hO9.oL;replace ar:=(ar.kO an (Aa aY)).ext ai;have ck:=Ah aj ar.oL;replace K0:=K0.ext ai;have cm:∀q_,own ra9 q_->q_<w.heap.size->Z q_:=Hx K0.size aj;have cn:=Bd K0.size aj;clear aj;replace K0:=K0.trans ao (fun x hlt hx=>(fun q_ h_ _=>h_) x hx hlt);replace hS:=bt;clear bt;replace a0:=a0.keep ao aB;refine jG ?_;refine jU rfl<|AA.buildSlice ([⟨ra9,(sk.m key).length,rc9⟩]:List SH) underlying53 ty28 rfl rfl Ze ?_;intro dq dr co cp aa;clear co;replace a0:=a0.ext aa;refine jG ?_;replace a6:=(a6.kO ao aF).ext aa;refine jU rfl<|AA.append (xs:=ms.map Mh.h) (ys:=([⟨ra9,(sk.m key).length,rc9⟩]:List SH)) underlying53 ty28 rfl rfl rfl a6 cp.sl Zr Zd ?_;intro a8 ds dt aG ak ab cq;replace a1:=(a1.keep ao aA).ext aa;have cr:¬own a8 a9:=ab.not aT a1.lt;have bw:¬own a8 ac:=ab.not aU a0.lt;replace hS:=hS.ext aa;have ct:∀q_,own a8 q_->¬Z q_:=ab.apart aF hS.oL;replace a2:=(a2.kO ao aK).ext aa;have cu:∀q_,own a8 q_->¬own ka9 q_:=ab.apart bg a2.oL;replace a3:=(a3.kO ao b1).ext aa;have cw:∀q_,own a8 q_->¬own ha9 q_:=ab.apart bh a3.oL;replace a4:=(a4.kO ao aO).ext aa;have cx:∀q_,own a8 q_->¬BP cs q_:=ab.apart (Zf b5) a4.oL;replace a5:=((((a5.kO am b7).kO an (Aa aP)).ext ai).kO ao aQ).ext aa;have cy:∀q_,own a8 q_->¬Ej ms q_:=ab.apart (Zf b8) a5.oL;replace hO9:=(hO9.kO ao bm).ext aa;have cz:∀q_,own a8 q_->¬En s9 q_:=ab.apart (Zf bo) hO9.oL;replace ar:=(ar.kO ao bq).ext aa;have cA:∀q_,own a8 q_->¬own a7 q_:=ab.apart (Zf bs) ar.oL;replace az:=az.ext aa;have cB:∀q_,own a8 q_->¬own ra9 q_:=ab.apart (Zf bv) az.oL;replace K0:=K0.ext aa;have cC:∀q_,own a8 q_->q_<w.heap.size->Z q_:=ab.inS bi K0.size;have cD:∀q_,own a8 q_->w.heap.size<=q_:=ab.ge aW K0.size;replace K0:=K0.trans ak (fun x hlt hx=>bi x hx hlt);clear ab;clear cq;replace a0:=a0.keep ak aU;refine jG ?_;refine jU rfl<|jS a0 ?_;intro bx a0 al;replace K0:=K0.n1 al;refine jG ?_;refine jV (Az (c:=((i+1:Nat):Int)) (Au rfl rfl Zo Zo) rfl) ?_;refine jG ?_;have cE:(cs.map Ct.c)++([(⟨⟨s9.ea,v9.ent.length,s9.ec⟩,(⟨⟨s9.ma,v9.mrk.length,s9.mc⟩,⟨s9.ca,v9.cl.length,s9.cc⟩⟩:PE)⟩:Ba)]:List Ba)=(cs++[(⟨v9,s9⟩:Ct)]).map Ct.c:=by rw[Aam];rfl
   replace ar:=(ar.kO ak bs).kO al (Aa aY);rw[cE]at ar a0;have cF:(ms.map Mh.h)++([⟨ra9,(sk.m key).length,rc9⟩]:List SH)=(ms++[(⟨ra9,rc9,sk.m key⟩:Mh)]).map Mh.h:=by rw[Aam];rfl
   replace aG:=aG.kO al (Aa bw);rw[cF]at aG a0;replace a4:=(a4.kO ak b5).kO al (Aa aN);replace hO9:=(hO9.kO ak bo).kO al (Aa aX);have hC':Db bx (cs++[⟨v9,s9⟩]):=Db.snoc (x:=⟨v9,s9⟩) a4 hO9 hvo9;have cG:¬BP (cs++[⟨v9,s9⟩]) a9:=fun x_=>(Cv _ x_).elim bN (fun y_=>b3 y_);have cH:¬BP (cs++[⟨v9,s9⟩]) ac:=fun x_=>(Cv _ x_).elim aX (fun y_=>aN y_);have cI:∀q_,BP (cs++[⟨v9,s9⟩]) q_->¬Z q_:=fun q_ x_ z_=>(Cv _ x_).elim (fun y_=>bm q_ y_ z_) (fun y_=>(fun y_=>aO q_ y_ z_) y_);have cJ:∀q_,BP (cs++[⟨v9,s9⟩]) q_->¬own ka9 q_:=fun q_ x_ z_=>(Cv _ x_).elim (fun y_=>bO q_ y_ z_) (fun y_=>(fun y_=>bF q_ y_ z_) y_);have cK:∀q_,BP (cs++[⟨v9,s9⟩]) q_->¬own ha9 q_:=fun q_ x_ z_=>(Cv _ x_).elim (fun y_=>bP q_ y_ z_) (fun y_=>(fun y_=>bG q_ y_ z_) y_);have cL:∀q_,BP (cs++[⟨v9,s9⟩]) q_->¬Ej ms q_:=fun q_ x_ z_=>(Cv _ x_).elim (fun y_=>bQ q_ y_ z_) (fun y_=>(fun y_=>bH q_ y_ z_) y_);have cM:∀q_,BP (cs++[⟨v9,s9⟩]) q_->¬own a7 q_:=fun q_ x_ z_=>(Cv _ x_).elim (fun y_=>(Zf c9) q_ y_ z_) (fun y_=>(fun y_=>(Zf c7) q_ y_ z_) y_);have cN:∀q_,BP (cs++[⟨v9,s9⟩]) q_->¬own ra9 q_:=fun q_ x_ z_=>(Cv _ x_).elim (fun y_=>(Zf cj) q_ y_ z_) (fun y_=>(fun y_=>(Zf ci) q_ y_ z_) y_);have cO:∀q_,BP (cs++[⟨v9,s9⟩]) q_->¬own a8 q_:=fun q_ x_ z_=>(Cv _ x_).elim (fun y_=>(Zf cz) q_ y_ z_) (fun y_=>(fun y_=>(Zf cx) q_ y_ z_) y_);have cP:∀q_,BP (cs++[⟨v9,s9⟩]) q_->q_<w.heap.size->Z q_:=fun q_ x_ hl_=>(Cv _ x_).elim (fun y_=>bR q_ y_ hl_) (fun y_=>(fun y_=>bI q_ y_ hl_) y_);have cQ:∀q_,BP (cs++[⟨v9,s9⟩]) q_->w.heap.size<=q_:=fun q_ x_=>(Cv _ x_).elim (fun y_=>bS q_ y_) (fun y_=>(fun y_=>bj q_ y_) y_);replace a5:=(a5.kO ak b8).kO al (Aa aP);replace az:=(az.kO ak bv).kO al (Aa bu);have hM':GH bx (ms++[⟨ra9,rc9,sk.m key⟩]):=GH.snoc (x:=⟨ra9,rc9,sk.m key⟩) a5 az (Aaa (hf.m key) hn);have cR:¬Ej (ms++[⟨ra9,rc9,sk.m key⟩]) a9:=fun x_=>(DJ _ x_).elim ce (fun y_=>b6 y_);have cS:¬Ej (ms++[⟨ra9,rc9,sk.m key⟩]) ac:=fun x_=>(DJ _ x_).elim bu (fun y_=>aP y_);have cT:∀q_,Ej (ms++[⟨ra9,rc9,sk.m key⟩]) q_->¬Z q_:=fun q_ x_ z_=>(DJ _ x_).elim (fun y_=>cf q_ y_ z_) (fun y_=>(fun y_=>aQ q_ y_ z_) y_);have cU:∀q_,Ej (ms++[⟨ra9,rc9,sk.m key⟩]) q_->¬own ka9 q_:=fun q_ x_ z_=>(DJ _ x_).elim (fun y_=>cg q_ y_ z_) (fun y_=>(fun y_=>bJ q_ y_ z_) y_);have cV:∀q_,Ej (ms++[⟨ra9,rc9,sk.m key⟩]) q_->¬own ha9 q_:=fun q_ x_ z_=>(DJ _ x_).elim (fun y_=>ch q_ y_ z_) (fun y_=>(fun y_=>bK q_ y_ z_) y_);have cW:∀q_,Ej (ms++[⟨ra9,rc9,sk.m key⟩]) q_->¬own a7 q_:=fun q_ x_ z_=>(DJ _ x_).elim (fun y_=>ck q_ y_ z_) (fun y_=>(fun y_=>(Zf c8) q_ y_ z_) y_);have cX:∀q_,Ej (ms++[⟨ra9,rc9,sk.m key⟩]) q_->¬own a8 q_:=fun q_ x_ z_=>(DJ _ x_).elim (fun y_=>(Zf cB) q_ y_ z_) (fun y_=>(fun y_=>(Zf cy) q_ y_ z_) y_);have cY:∀q_,Ej (ms++[⟨ra9,rc9,sk.m key⟩]) q_->¬BP (cs++[⟨v9,s9⟩]) q_:=fun q_ x_ z_=>(DJ _ x_).elim (fun y_=>(Zf cN) q_ y_ z_) (fun y_=>(fun y_=>(Zf cL) q_ y_ z_) y_);have cZ:∀q_,Ej (ms++[⟨ra9,rc9,sk.m key⟩]) q_->q_<w.heap.size->Z q_:=fun q_ x_ hl_=>(DJ _ x_).elim (fun y_=>cm q_ y_ hl_) (fun y_=>(fun y_=>bL q_ y_ hl_) y_);have d0:∀q_,Ej (ms++[⟨ra9,rc9,sk.m key⟩]) q_->w.heap.size<=q_:=fun q_ x_=>(DJ _ x_).elim (fun y_=>cn q_ y_) (fun y_=>(fun y_=>bk q_ y_) y_)
   refine ih1 (i+1) _ _ ?_ Zo;replace hL:=(((hL.keep ao hZG).ext aa).keep ak (fun q_ hq_=>Aaa hLs (aW q_ hq_))).keep al Zw;replace a1:=(a1.keep ak aT).kp al;replace hS:=(hS.kO ak (Zf aF)).kO al (Aa aB);replace a2:=(a2.kO ak (Zf bg)).kO al (Aa aL);replace a3:=(a3.kO ak (Zf bh)).kO al (Aa aM);refine⟨(cs++[⟨v9,s9⟩]),(ms++[⟨ra9,rc9,sk.m key⟩]),_,_,_,_,⟨rfl,rfl,rfl,rfl,rfl,rfl,trivial⟩,K0,hL,a1,a0,hS,a2,a3,hC',hM',ar,aG,cG,cH,cI,cJ,cK,(Zf cY),cM,cO,cP,cR,cS,cT,cU,cV,cW,cX,cZ,c4,aY,bq,c5,c6,(Zf cA),cb,cr,bw,ct,cu,cw,cC,cQ,d0,cd,cD,?_,?_,?_⟩
   ·omega
   ·exact O2 hk hcl (by rw[hgv];rfl)
   ·exact O2 hk hml rfl
 ·intro hc17
  refine jG ?_;refine jR<|jS a1 ?_;intro du a1 au;replace K0:=K0.n1 au;refine jG ?_;refine Ai.retC (cs:=#[.slice ka9 ((BG l9).length) kc9,.slice ca ((cs.map Ct.c).length) cc,.slice ha9 hl9.length hc9,.slice ma ((ms.map Mh.h).length) mc]) func16 rfl ty55 rfl rfl a1.cl ?_;have hkl_:=O4 hKO hf;have h1_:=J5 hcl hi;have h2_:=J5 hml hi;have h3_:=O3 hcl (show(BG l9).length<=i by omega);have h4_:=O3 hml (show(BG l9).length<=i by omega);replace hS:=hS.kO au (Aa aA);replace a2:=a2.kO au (Aa bz);replace a3:=a3.kO au (Aa bB);replace a4:=a4.kO au (Aa b3);replace a5:=a5.kO au (Aa b6);replace ap:=ap.kO au (Aa aR);replace a6:=a6.kO au (Aa aT);exact⟨_,rfl,⟨ka9,kc9,BG l9,ca,cc,cs,ha9,hc9,hl9,ma,mc,ms⟩,rfl,hS,K0,⟨a2,ap,a4,a3,a6,a5,⟨(show(BG l9).length<=1000 by omega),(show cs.length<=1000 by omega),(show hl9.length<=1000 by omega),(show ms.length<=1000 by omega)⟩⟩,fun q_ h_=>h_.elim (bA q_) (fun h_=>h_.elim (aV q_) (fun h_=>h_.elim (bj q_) (fun h_=>h_.elim (bC q_) (fun h_=>h_.elim (aW q_) (bk q_))))),⟨⟨l9,hKO,rfl⟩,hHO,h3_,h4_⟩⟩
end Go.Proofs.YtjkaicjmfgekjaaGreatDoor
namespace Go.Proofs.YtjkaicjmfgekjaaGreatDoor
open Go.Proofs.Tryz
attribute [local irreducible] RD RS AA RL RA RT Cz Ai AC DQ Cp BH Bz B4 Cb D4 Cj itemsN BW AO Br BK Gr AP A4 Ar As A1 Ay A5 EM AW AK Cy setM Ax Ao
structure ZA where
 op:Int
 n:Int
 key:ByteArray
 cart:Ba
 mark:Ab
instance : Enc ZA:=Enc.struct (fun t=>[.int .i64 t.op,.int .i64 t.n,.string t.key,.slice t.cart.entries.a t.cart.entries.len t.cart.entries.cap,.slice t.cart.ctx.marks.a t.cart.ctx.marks.len t.cart.ctx.marks.cap,.slice t.cart.ctx.cloud.a t.cart.ctx.cloud.len t.cart.ctx.cloud.cap,.int .i64 t.mark.node,.int .i64 t.mark.life,.int .i64 t.mark.count]) 9 (fun _=>rfl) (fun _ v hv=>by simp at hv;rcases hv with rfl|rfl|rfl|rfl|rfl|rfl|rfl|rfl|rfl<;>rfl) Zd
structure Dx where
 op:Int
 n:Int
 key:ByteArray
 v:MV
 s:Ge
 m:Ab
def Dx.c (t:Dx):ZA:=⟨t.op,t.n,t.key,(CN t.v t.s).cart,t.m⟩
def ZB (w:World)(ks:List Dx):Prop:=∀k∈ks,(Bf w k.s k.v∧Bl k.v k.s)∧k.key.size<=4294967295
structure Lp (syn:Nat)(rs:List Dt)(pl:List PF)(s:KF):Prop where
 led:OV syn rs pl s
 one:∀j,1<=j->(FV kf0 (rs.take j)).st=1
 ne:1<=rs.length
section
variable {syn :Nat}{rs rs':List Dt}{pl pl':List PF}{s s':KF}{ts:List EZ}{t:EZ}
theorem ledK_B :Lp 1 [.o 1] plB sB:=⟨ledB.1,fun j hj=>by
 have e:([Dt.o 1]:List Dt).take j=[.o 1]:=AaA (by simpa using hj)
 rw[e];rfl,Aac 1⟩
def XV (rs rs':List Dt)(s s':KF):Prop:=(rs'=rs∧s'=s)∨∃r,rs'=rs++[r]
theorem Lp.step (h:Lp syn rs pl s)(hl:rs.length<=45)(hs:(s'=s∧pl'=pl)∨∃r,Ly s r∧s'.st=s.st∧s'=EL s r∧pl'=(Ay 4194304 pl (encK r)).2):
  ∃rs',Lp syn rs' pl' s'∧rs'.length<=rs.length+1∧XV rs rs' s s':=by
 rcases hs with⟨rfl,rfl⟩|⟨r,hr,hst,rfl,rfl⟩
 ·exact⟨rs,h,Nat.le_succ _,.inl ⟨rfl,rfl⟩⟩
 ·refine⟨rs++[r],⟨h.led.app hl hr,fun j hj=> ?_,by simp⟩,by simp,.inr ⟨r,rfl⟩⟩
  by_cases c:j<=rs.length
  ·rw[Abw c];exact h.one j hj
  ·rw[AaA Zi,Jx]
   show(EL (FV kf0 rs) r).st=1
   rw[<-h.led.st,hst,h.led.st]
   have:=h.one rs.length h.ne
   rwa[Aas]at this
theorem Lp.sync (h:Lp syn rs pl s)(hl:rs.length<=45):Lp rs.length rs (Fi pl) s:=⟨h.led.sync hl,h.one,h.ne⟩
def O5 (syn:Nat)(rs:List Dt)(ts:List EZ):Prop:=∀j,syn<=j->j<=rs.length->∃t∈ts,JB (FV kf0 (rs.take j)) t
theorem O5.first (h:Lp syn rs pl s)(ht:JB s t):O5 rs.length rs [t]:=fun j h1 h2=>by
 have e:j=rs.length:=Nat.le_antisymm h2 h1
 rw[e,Aas,<-h.led.st]
 exact⟨t,List.mem_singleton.2 rfl,ht⟩
theorem O5.step (h:O5 syn rs ts)(hL:Lp syn rs' pl' s')(hn:XV rs rs' s s')(ht:JB s' t):O5 syn rs' (ts++[t]):=fun j h1 h2=>by
 rcases hn with⟨rfl,-⟩|⟨r,rfl⟩
 ·obtain⟨u,hu,k⟩:=h j h1 h2;exact⟨u,AaM _ hu,k⟩
 ·by_cases c:j<=rs.length
  ·obtain⟨u,hu,k⟩:=h j h1 c
   exact⟨u,AaM _ hu,by rw[Abw c];exact k⟩
  ·have e:(rs++[r]).take j=rs++[r]:=AaA Zi
   rw[e,<-hL.led.st]
   exact⟨t,AaP _ (List.mem_singleton.2 rfl),ht⟩
theorem Ti {rs:List Dt}(h:OkRun kf0 rs)(hl:rs.length<=45):CJ (rs.map encK)+9113<=4194304:=by
 have:=lenF_le (rs:=rs.map encK) fun p hp=>(h.lens p hp).2
 rw[Aad]at this;omega
theorem Xp {u:EZ}(h:O5 syn rs ts){j:Nat}(h1:syn<=j)(h2:j<=rs.length)(ht:JB (EL (FV kf0 (rs.take j)) (.o (1+1))) u):ts.any (fun t=>decide (t.p=u.p))=true:=by
 obtain⟨t,hm,k⟩:=h j h1 h2
 exact List.any_eq_true.2 ⟨t,hm,decide_eq_true (k.eq ht rfl rfl rfl)⟩
end
attribute [local irreducible] X
theorem Xq (t u:EZ)(B:Nat)(w:World)(hb:AB w B [.slice u.ka u.ks.length u.kc,.slice u.ca ((u.cs.map Ct.c).length) u.cc,.slice u.ha u.hs.length u.hc,.slice u.ma ((u.ms.map Mh.h).length) u.mc] 55)(hT:GP w t)(hU:GP w u):
  Calls prog 22 #[.agg #[.slice t.ka t.ks.length t.kc,.slice t.ca ((t.cs.map Ct.c).length) t.cc,.slice t.ha t.hs.length t.hc,.slice t.ma ((t.ms.map Mh.h).length) t.mc],jp B] w (AN (fun v w'=>v= .bool (decide (t.p=u.p))∧Ap w w')):=by
 refine Ac (n:=7) func22 rfl rfl rfl ?_;refine jG ?_;refine jR<|jB ?_;intro a2 a4 a0 a5 a1;have a6:=Ak hb.lt a0;have:w.heap.size<=a2:=a0;clear a0;have K0:=(a1:Ap w _);replace hb:=hb.ext a1;refine jG ?_;refine jR<|jC (Zz t u _ (hT.ext K0) (hU.ext K0)) ?_;rintro _ a7 ⟨rfl,a3⟩;refine jG ?_;refine jJ func22 ?_;replace K0:=K0.ext a3;exact⟨_,rfl,rfl,K0⟩
theorem Xr (a:Option Addr)(ts:List EZ)(c:Nat)(B:Nat)(u:EZ)(w:World)(hs:Av w a (ts.map EZ.c))(hTs:D6 w ts)(hb:AB w B [.slice u.ka u.ks.length u.kc,.slice u.ca ((u.cs.map Ct.c).length) u.cc,.slice u.ha u.hs.length u.hc,.slice u.ma ((u.ms.map Mh.h).length) u.mc] 55)(hU:GP w u)(hl:ts.length<=1000):
  Calls prog 62 #[.slice a ((ts.map EZ.c).length) c,.func (.func 22) #[] #[jp B]] w (AN (fun v w'=>v= .int .i64 (F2 (fun t=>decide (t.p=u.p)) ts)∧Ap w w')):=by
 have htc:(ts.map EZ.c).length=ts.length:=Aad ..;refine Ac (n:=19) func62 rfl rfl rfl ?_;refine jG ?_;refine Ai.loop (ι:=Nat) (fun i ρ' w'=>Holds ρ' [(0,.slice a ((ts.map EZ.c).length) c),(1,.func (.func 22) #[] #[jp B]),(7,.int .i64 (((ts.map EZ.c).length:Nat):Int)),(8,.int .i64 ((i:Nat):Int))]∧Ap w w'∧(AB w' B [.slice u.ka u.ks.length u.kc,.slice u.ca ((u.cs.map Ct.c).length) u.cc,.slice u.ha u.hs.length u.hc,.slice u.ma ((u.ms.map Mh.h).length) u.mc] 55)∧(i<=ts.length)∧(GL (fun t=>decide (t.p=u.p)) ts i)) (fun i=>ts.length-i) 0 ?_ ?_
 ·refine⟨⟨rfl,rfl,rfl,rfl,trivial⟩,(Ad.refl _ w),hb,?_,?_⟩
  ·omega
  ·exact GL.zero _ _
 clear hb;rintro i a3 a4 ⟨a1,K0,hb,hi,hno⟩ ih1;obtain⟨ρ₀,rfl⟩:=a1.ex;clear a1;refine jG ?_;refine jF ?_ ?_
 ·intro hc9
  obtain⟨a5,a6,x1,hx1,a7,a0⟩:=hs.eo i;have hc_7_lt:=a0.lt;refine H7 ?_;refine Em ?_;obtain⟨t,hti,htm,hte⟩:=GI (g:=EZ.c) hx1;replace a0:=a0.ext K0;refine jV (C7 (v':= .agg #[.slice t.ka t.ks.length t.kc,.slice t.ca ((t.cs.map Ct.c).length) t.cc,.slice t.ha t.hs.length t.hc,.slice t.ma ((t.ms.map Mh.h).length) t.mc]) (BQ (v:= .agg #[.slice x1.keys.a x1.keys.len x1.keys.cap,.slice x1.carts.a x1.carts.len x1.carts.cap,.slice x1.hints.a x1.hints.len x1.hints.cap,.slice x1.marks.a x1.marks.len x1.marks.cap]) (y:=x1) ty55 rfl a0 rfl) (by rw[hte];rfl)) ?_;refine jR<|AA.callV (vals:=[.agg #[.slice t.ka t.ks.length t.kc,.slice t.ca ((t.cs.map Ct.c).length) t.cc,.slice t.ha t.hs.length t.hc,.slice t.ma ((t.ms.map Mh.h).length) t.mc],jp B]) en22.h rfl rfl (Xq t u B _ hb ((hTs t htm).ext K0) (hU.ext K0)) ?_;rintro _ a8 ⟨rfl,a2⟩;refine jG ?_;replace hb:=hb.ext a2;replace K0:=K0.ext a2;refine jF ?_ ?_
  ·intro hc16
   replace hc16:(fun t=>decide (t.p=u.p)) t=true:=by simpa using hc16
   refine jG ?_;refine jJ func62 ?_;exact⟨_,rfl,by rw[GT hti hc16 hno],K0⟩
  ·intro hc16
   refine jG ?_;refine jV (Az (c:=((i+1:Nat):Int)) (Au rfl rfl Zo Zo) rfl) ?_;refine jG ?_;refine ih1 (i+1) _ _ ?_ Zo;refine⟨⟨rfl,rfl,rfl,rfl,trivial⟩,K0,hb,?_,?_⟩
   ·omega
   ·exact hno.step hti (by simpa using hc16)
 ·intro hc9
  refine jG ?_;refine jJ func62 ?_;exact⟨_,rfl,by rw[F3 hno Zo],K0⟩
theorem Qo (a:Option Addr)(ts:List EZ)(c:Nat)(B:Nat)(u:EZ)(w:World)(hs:Av w a (ts.map EZ.c))(hTs:D6 w ts)(hb:AB w B [.slice u.ka u.ks.length u.kc,.slice u.ca ((u.cs.map Ct.c).length) u.cc,.slice u.ha u.hs.length u.hc,.slice u.ma ((u.ms.map Mh.h).length) u.mc] 55)(hU:GP w u)(hl:ts.length<=1000):
  Calls prog 21 #[.slice a ((ts.map EZ.c).length) c,.func (.func 22) #[] #[jp B]] w (AN (fun v w'=>v= .bool (ts.any (fun t=>decide (t.p=u.p)))∧Ap w w')):=by
 refine Ac (n:=9) func21 rfl rfl rfl ?_;refine jG ?_;refine jR<|jC (Xr _ ts _ B u _ hs hTs hb hU hl) ?_;rintro _ a1 ⟨rfl,a0⟩;have K0:=(a0:Ap w _);refine jG ?_;refine jJ func21 ?_;exact⟨_,rfl,by rw[GU],K0⟩
theorem Qp (keep:Int)(al:Option Addr)(ks:List Dx)(lc:Nat)(bl:Option Addr)(ms:List Dx)(bc:Nat)(w:World)(hL:A2 w)(hl:Av w al (ks.map Dx.c))(hll:ks.length<=1048576)(hcs:ZB w ks)(hm:Av w bl (ms.map Dx.c))(hml:ms.length<=1048576)(hcs2:ZB w ms):
  Calls prog 4 #[.slice al ((ks.map Dx.c).length) lc,.slice bl ((ms.map Dx.c).length) bc,.int .i64 keep] w (AN (fun v w'=>v= .bool true∧Ap w w')):=by
 have hLs:=hL.size;have hkl:(ks.map Dx.c).length=ks.length:=Aad ..;have hkl2:(ms.map Dx.c).length=ms.length:=Aad ..;refine Ac (n:=84) func4 rfl rfl rfl ?_;refine jG ?_;refine jR<|jC (Vz _ hL) ?_;rintro _ cr ⟨av,aw,b5,rfl,b6,b7,b8⟩;have bI:=Bd (Aac _) b7;have bJ:∀q_,b5 q_->7<=q_:=fun q_ h_=>Aaa hLs (Aaa (Aac _) (b7 q_ h_));have K0:=(b8:Ap w _);refine ij ?_;refine jV (Bn (b:=true) rfl) ?_;refine jG ?_;refine Ai.condF rfl ?_;refine jG ?_;replace hL:=hL.ext b8;refine Ai.loop (ι:=Nat) (fun i ρ' w'=>∃rs:List Dt,∃pl:List PF,∃sk:KF,∃Z:Nat->Prop,Holds ρ' [(1,.slice bl ((ms.map Dx.c).length) bc),(2,.int .i64 keep),(7,jp av),(8,jp aw),(24,.slice al ((ks.map Dx.c).length) lc),(25,.int .i64 (((ks.map Dx.c).length:Nat):Int)),(26,.int .i64 ((i:Nat):Int))]∧Ap w w'∧(A2 w')∧(GN w' aw av Z pl sk)∧(∀q_,Z q_->w.heap.size<=q_)∧(∀q_,Z q_->7<=q_)∧(i<=ks.length)∧(Lp 1 rs pl sk)∧(rs.length<=i+1)∧(rs.length<=21)) (fun i=>ks.length-i) 0 ?_ ?_
 ·refine⟨[.o 1],plB,sB,b5,⟨rfl,rfl,rfl,rfl,rfl,rfl,rfl,trivial⟩,K0,hL,b6,bI,bJ,?_,?_,?_,?_⟩
  ·omega
  ·exact ledK_B
  ·decide
  ·decide
 clear b6;clear K0;rintro i cs ct ⟨rs,pl,sk,Z,b9,K0,hL,a7,a8,a9,hi,hLd,hrl,hrl2⟩ ih1;obtain⟨ρ₀,rfl⟩:=b9.ex;clear b9;refine jG ?_;refine jF ?_ ?_
 ·intro hc27
  obtain⟨cu,cw,x,hx,cx,ah⟩:=hl.eo i;have hc_19_lt:=ah.lt;refine Em ?_;obtain⟨p,hpi,hpm,hxe⟩:=GI (g:=Dx.c) hx;have hCp:=((hcs p hpm).1.1.ext K0);have hpok:=(hcs p hpm).1.2;have hpk:=(hcs p hpm).2;have hplt:=(hcs p hpm).1.1.oL;have ba:∀q_,BE p.s p.v q_->¬Z q_:=fun q_ h_ h2_=>absurd (hplt q_ h_) (Nat.not_lt.2 (a8 q_ h2_));replace ah:=ah.ext K0;refine jV (C7 (v':= .agg #[.int .i64 p.op,.int .i64 p.n,.string p.key,.slice p.s.ea p.v.ent.length p.s.ec,.slice p.s.ma p.v.mrk.length p.s.mc,.slice p.s.ca p.v.cl.length p.s.cc,.int .i64 p.m.node,.int .i64 p.m.life,.int .i64 p.m.count]) (BQ (v:= .agg #[.int .i64 x.op,.int .i64 x.n,.string x.key,.slice x.cart.entries.a x.cart.entries.len x.cart.entries.cap,.slice x.cart.ctx.marks.a x.cart.ctx.marks.len x.cart.ctx.marks.cap,.slice x.cart.ctx.cloud.a x.cart.ctx.cloud.len x.cart.ctx.cloud.cap,.int .i64 x.mark.node,.int .i64 x.mark.life,.int .i64 x.mark.count]) (y:=x) ty48 rfl ah rfl) (by rw[hxe];rfl)) ?_;refine jR<|jA ?_;intro cy cz ai bb ax;have cA:=Ak ah.lt ai;have bK:=An a7.oL ai;have bL:=An hCp.oL ai;have:=Aaa K0.size ai;clear ai;refine jG ?_;refine jR<|jS bb ?_;intro cB bb ay;refine jG ?_;replace hL:=(hL.ext ax).keep ay Zw;replace a7:=(a7.ext ax).kO ay (Aa bK);replace hCp:=(hCp.ext ax).kO ay (Aa bL);replace K0:=(K0.ext ax).n1 ay;refine jF ?_ ?_
  ·intro hc32
   refine jG ?_;refine jR<|jC (VA p.op p.n p.key p.v p.s p.m _ _ _ _ _ _ a7 hL a9 hpk hCp hpok ba hLd.led.good (fun k_=>Ack (hLd.led.few.m k_) Zo) (hLd.led.happ Zo)) ?_;rintro _ cC ⟨aS,pl9,s9,bM,aT,aU,hcs9⟩;obtain⟨rs9,hLd9,hrl9,hnx9⟩:=hLd.step Zo hcs9;have bN:∀q_,aS q_->w.heap.size<=q_:=aT.ge a8 K0.size;have bO:∀q_,aS q_->7<=q_:=fun q_ h_=>(aT q_ h_).elim (a9 q_) (fun h2_=>Aaa hLs (Aaa K0.size h2_));clear aT;refine jG ?_;refine jV (Az (c:=((i+1:Nat):Int)) (Au rfl rfl Zo Zo) rfl) ?_;refine jG ?_;refine ih1 (i+1) _ _ ?_ Zo;replace hL:=hL.keep aU a9;replace hCp:=hCp.kO aU ba;replace K0:=K0.new aU a8;refine⟨rs9,pl9,s9,aS,⟨rfl,rfl,rfl,rfl,rfl,rfl,rfl,trivial⟩,K0,hL,bM,bN,bO,?_,?_,?_,?_⟩
   ·omega
   ·exact hLd9
   ·omega
   ·omega
  ·intro hc32
   refine jG ?_;refine jV (Az (c:=((i+1:Nat):Int)) (Au rfl rfl Zo Zo) rfl) ?_;refine jG ?_;refine ih1 (i+1) _ _ ?_ Zo;refine⟨rs,pl,sk,Z,⟨rfl,rfl,rfl,rfl,rfl,rfl,rfl,trivial⟩,K0,hL,a7,a8,a9,?_,?_,?_,?_⟩
   ·omega
   ·exact hLd
   ·omega
   ·omega
 ·intro hc27
  refine jG ?_;refine jR<|jC (gm a7 hL) ?_;rintro _ cD ⟨rfl,az,a3,aV,be⟩;have bg:∀q_,az q_->w.heap.size<=q_:=aV.ge a8 K0.size;have aW:∀q_,az q_->7<=q_:=fun q_ h_=>(aV q_ h_).elim (a9 q_) (fun h2_=>Aaa hLs (Aaa K0.size h2_));clear aV;have hLdS:=hLd.sync Zo;refine jG ?_;refine Ai.condF rfl ?_;refine jG ?_;replace hL:=hL.keep be a9;refine jR<|jC (Qn _ _ _ _ _ _ _ a3 hL aW hLdS.led.good hLdS.led.few Zo) ?_;rintro _ cE ⟨t1,rfl,bh,bi,aA,aX,hTO_t1⟩;have bP:=Ah aX a3.oL;replace K0:=K0.new be a8;have bQ:=Bd K0.size aX;clear aX;replace a3:=bh;clear bh;refine jR<|AA.buildSlice ([(EZ.c t1)]:List Qj) underlying57 ty55 rfl rfl Ze ?_;intro bj bk aB aC aD;have bR:=Ah (CV aB) a3.oL;have bS:=Ah (CV aB) aA.oL;replace K0:=K0.new bi bg;have bT:=Bd K0.size (CV aB);clear aB;replace aA:=aA.ext aD;have hTs0:D6 bk [t1]:=D6.one aA;have bU:∀q_,Ek [t1] q_->¬az q_:=fun q_ x_ z_=>(fun y_=>bP q_ y_ z_) (tols_one _ x_);have bV:∀q_,Ek [t1] q_->¬own (some ⟨bj,0,none⟩) q_:=fun q_ x_ z_=>(fun y_=>(Zf bS) q_ y_ z_) (tols_one _ x_);have bW:∀q_,Ek [t1] q_->w.heap.size<=q_:=fun q_ x_=>(fun y_=>bQ q_ y_) (tols_one _ x_);replace aC:Af bk 55 (some ⟨bj,0,none⟩) (([(EZ.c t1)]:List Qj).length) (([t1]).map EZ.c):=aC;refine jG ?_;replace hL:=(hL.keep bi aW).ext aD;replace a3:=a3.ext aD;replace K0:=K0.ext aD;refine Ai.loop (ι:=Nat) (fun i ρ' w'=>∃us:List Dt,∃pl2:List PF,∃sk2:KF,∃Z2:Nat->Prop,∃ts:List EZ,∃sa:Option Addr,∃sc:Nat,Holds ρ' [(2,.int .i64 keep),(7,jp av),(8,jp aw),(12,.slice sa ((ts.map EZ.c).length) sc),(43,.slice bl ((ms.map Dx.c).length) bc),(44,.int .i64 (((ms.map Dx.c).length:Nat):Int)),(45,.int .i64 ((i:Nat):Int))]∧Ap w w'∧(A2 w')∧(GN w' aw av Z2 pl2 sk2)∧(D6 w' ts)∧(Af w' 55 sa sc (ts.map EZ.c))∧(∀q_,Z2 q_->¬Ek ts q_)∧(∀q_,Z2 q_->¬own sa q_)∧(∀q_,Z2 q_->w.heap.size<=q_)∧(∀q_,Ek ts q_->¬own sa q_)∧(∀q_,Ek ts q_->w.heap.size<=q_)∧(∀q_,own sa q_->w.heap.size<=q_)∧(∀q_,Z2 q_->7<=q_)∧(i<=ms.length)∧(Lp rs.length us pl2 sk2)∧(us.length<=i+21)∧(us.length<=41)∧(O5 rs.length us ts)∧(ts.length<=i+1)∧(ts.length<=21)) (fun i=>ms.length-i) 0 ?_ ?_
  ·refine⟨rs,Fi pl,sk,az,[t1],_,_,⟨rfl,rfl,rfl,rfl,rfl,rfl,rfl,trivial⟩,K0,hL,a3,hTs0,aC,(Zf bU),(Zf bR),bg,bV,bW,bT,aW,?_,?_,?_,?_,?_,?_,?_⟩
   ·omega
   ·exact hLdS
   ·omega
   ·omega
   ·exact O5.first hLdS hTO_t1
   ·exact Aac 1
   ·exact Nat.le_add_left 1 20
  clear a3 aC hTs0;clear K0;rintro i cF cG ⟨us,pl2,sk2,Z2,ts,sa,sc,bm,K0,hL,aa,a0,a1,aE,aF,ab,aY,bn,aj,aG,hi,hLd2,hul,hul2,hcov,htl,htl2⟩ ih2;obtain⟨ρ₀,rfl⟩:=bm.ex;clear bm;refine jG ?_;refine jF ?_ ?_
  ·intro hc46
   have htc9:(ts.map EZ.c).length=ts.length:=Aad ..;obtain⟨cH,cI,x,hx,cJ,ak⟩:=hm.eo i;have hc_83_lt:=ak.lt;refine Em ?_;obtain⟨p,hpi,hpm,hxe⟩:=GI (g:=Dx.c) hx;have hCp:=((hcs2 p hpm).1.1.ext K0);have hpok:=(hcs2 p hpm).1.2;have hpk:=(hcs2 p hpm).2;have hplt:=(hcs2 p hpm).1.1.oL;have aZ:∀q_,BE p.s p.v q_->¬Z2 q_:=fun q_ h_ h2_=>absurd (hplt q_ h_) (Nat.not_lt.2 (ab q_ h2_));have bX:∀q_,BE p.s p.v q_->¬own sa q_:=fun q_ h_ h2_=>absurd (hplt q_ h_) (Nat.not_lt.2 (aj q_ h2_));replace ak:=ak.ext K0;refine jV (C7 (v':= .agg #[.int .i64 p.op,.int .i64 p.n,.string p.key,.slice p.s.ea p.v.ent.length p.s.ec,.slice p.s.ma p.v.mrk.length p.s.mc,.slice p.s.ca p.v.cl.length p.s.cc,.int .i64 p.m.node,.int .i64 p.m.life,.int .i64 p.m.count]) (BQ (v:= .agg #[.int .i64 x.op,.int .i64 x.n,.string x.key,.slice x.cart.entries.a x.cart.entries.len x.cart.entries.cap,.slice x.cart.ctx.marks.a x.cart.ctx.marks.len x.cart.ctx.marks.cap,.slice x.cart.ctx.cloud.a x.cart.ctx.cloud.len x.cart.ctx.cloud.cap,.int .i64 x.mark.node,.int .i64 x.mark.life,.int .i64 x.mark.count]) (y:=x) ty48 rfl ak rfl) (by rw[hxe];rfl)) ?_;refine jR<|jA ?_;intro cK cL a5 bo ac;have cM:=Ak ak.lt a5;have bY:=An aa.oL a5;have bZ:=An a0.oL a5;have c0:=An a1.oL a5;have c1:=An hCp.oL a5;have:=Aaa K0.size a5;clear a5;refine jG ?_;refine jR<|jS bo ?_;intro cN bo ad;refine jG ?_;replace hL:=(hL.ext ac).keep ad Zw;replace aa:=(aa.ext ac).kO ad (Aa bY);replace a0:=(a0.ext ac).kO ad (Aa bZ);replace a1:=(a1.ext ac).kO ad (Aa c0);replace hCp:=(hCp.ext ac).kO ad (Aa c1);replace K0:=(K0.ext ac).n1 ad;refine jF ?_ ?_
   ·intro hc51
    refine jG ?_;refine jR<|jC (VA p.op p.n p.key p.v p.s p.m _ _ _ _ _ _ aa hL aG hpk hCp hpok aZ hLd2.led.good (fun k_=>Ack (hLd2.led.few.m k_) Zo) (hLd2.led.happ Zo)) ?_;rintro _ cO ⟨a4,pl9,s9,a2,ae,am,hcs9⟩;obtain⟨rs9,hLd9,hrl9,hnx9⟩:=hLd2.step Zo hcs9;have bp:∀q_,a4 q_->¬Ek ts q_:=ae.apart aE a0.oL;have b0:∀q_,a4 q_->¬own sa q_:=ae.apart aF a1.oL;have c2:∀q_,a4 q_->¬BE p.s p.v q_:=ae.apart (Zf aZ) hCp.oL;have bq:∀q_,a4 q_->w.heap.size<=q_:=ae.ge ab K0.size;have b1:∀q_,a4 q_->7<=q_:=fun q_ h_=>(ae q_ h_).elim (aG q_) (fun h2_=>Aaa hLs (Aaa K0.size h2_));clear ae;refine jG ?_;replace hL:=hL.keep am aG;refine jR<|jC (Qn _ _ _ _ _ _ _ a2 hL b1 hLd9.led.good hLd9.led.few Zo) ?_;rintro _ cP ⟨t2,rfl,bs,an,af,aH,hTO_t2⟩;replace a1:=a1.kO am (Zf aF);have bt:=Ah aH a1.oL;have c3:=Ah aH a2.oL;replace K0:=K0.new am ab;have c4:=Bd K0.size aH;clear aH;replace a2:=bs;clear bs;refine jR<|AA.buildSlice ([(EZ.c t2)]:List Qj) underlying57 ty55 rfl rfl Ze ?_;intro cQ cR c5 c6 a6;clear c5;replace a1:=(a1.kO an (Zf b0)).ext a6;refine jR<|AA.append (xs:=ts.map EZ.c) (ys:=([(EZ.c t2)]:List Qj)) underlying57 ty55 rfl rfl rfl a1 c6.sl Zr Zd ?_;intro ao cS c7 bu ag ap c8;replace a0:=((a0.kO am (Zf aE)).kO an (Zf bp)).ext a6;have c9:∀q_,own ao q_->¬Ek ts q_:=ap.apart (Zf aY) a0.oL;replace a2:=a2.ext a6;have cb:∀q_,own ao q_->¬a4 q_:=ap.apart (Zf b0) a2.oL;replace af:=af.ext a6;have cd:∀q_,own ao q_->¬Qk t2 q_:=ap.apart (Zf bt) af.oL;replace K0:=(K0.new an bq).ext a6;have ce:∀q_,own ao q_->w.heap.size<=q_:=ap.ge aj K0.size;clear ap;clear c8;refine jG ?_;refine jV (Az (c:=((i+1:Nat):Int)) (Au rfl rfl Zo Zo) rfl) ?_;refine jG ?_;have e9_:(ts.map EZ.c)++([(EZ.c t2)]:List Qj)=(ts++[t2]).map EZ.c:=by rw[Aam];rfl
    rw[e9_]at bu;replace a0:=a0.kO ag aY;replace af:=af.kO ag bt;have hTs9:D6 c7 (ts++[t2]):=D6.snoc a0 af;have cf:∀q_,Ek (ts++[t2]) q_->¬a4 q_:=fun q_ x_ z_=>(tols_snoc _ x_).elim (fun y_=>c3 q_ y_ z_) (fun y_=>(fun y_=>(Zf bp) q_ y_ z_) y_);have cg:∀q_,Ek (ts++[t2]) q_->¬own ao q_:=fun q_ x_ z_=>(tols_snoc _ x_).elim (fun y_=>(Zf cd) q_ y_ z_) (fun y_=>(fun y_=>(Zf c9) q_ y_ z_) y_);have ch:∀q_,Ek (ts++[t2]) q_->w.heap.size<=q_:=fun q_ x_=>(tols_snoc _ x_).elim (fun y_=>c4 q_ y_) (fun y_=>(fun y_=>bn q_ y_) y_);refine ih2 (i+1) _ _ ?_ Zo;rw[e9_];replace hCp:=(((hCp.kO am aZ).kO an (Zf c2)).ext a6).kO ag bX;replace hL:=((hL.keep an b1).ext a6).keep ag (fun q_ hq_=>Aaa hLs (aj q_ hq_));replace a2:=a2.kO ag b0;replace K0:=K0.new ag aj;refine⟨rs9,pl9,s9,a4,(ts++[t2]),_,_,⟨rfl,rfl,rfl,rfl,rfl,rfl,rfl,trivial⟩,K0,hL,a2,hTs9,bu,(Zf cf),(Zf cb),bq,cg,ch,ce,b1,?_,?_,?_,?_,?_,?_,?_⟩
    ·omega
    ·exact hLd9
    ·omega
    ·omega
    ·exact hcov.step hLd9 hnx9 hTO_t2
    ·rw[Aab,AaS];omega
    ·rw[Aab,AaS];omega
   ·intro hc51
    refine jG ?_;refine jV (Az (c:=((i+1:Nat):Int)) (Au rfl rfl Zo Zo) rfl) ?_;refine jG ?_;refine ih2 (i+1) _ _ ?_ Zo;refine⟨us,pl2,sk2,Z2,ts,_,_,⟨rfl,rfl,rfl,rfl,rfl,rfl,rfl,trivial⟩,K0,hL,aa,a0,a1,aE,aF,ab,aY,bn,aj,aG,?_,?_,?_,?_,?_,?_,?_⟩
    ·omega
    ·exact hLd2
    ·omega
    ·omega
    ·exact hcov
    ·omega
    ·omega
  ·intro hc46
   obtain⟨F9,hD9,hFZ9,hFG9⟩:=aa.disk;have hul3:us.length<=41:=hul2;have htl3:ts.length<=21:=htl2;have bv:∀q_,F9 q_->¬Ek ts q_:=fun q_ h_=>aE q_ (hFZ9 q_ h_);have bw:∀q_,F9 q_->¬own sa q_:=fun q_ h_=>aF q_ (hFZ9 q_ h_);refine jG ?_;refine jR<|jC (Xl _ _ _ _ keep _ hD9) ?_;rintro _ cT ⟨cU,cV,rfl,ci,cj,aq⟩;clear cj;replace hD9:=hD9.ext aq;have htl_:(Di pl2 keep).length<=64:=by rw[H0,A3,Cf.length_eq,Aad];exact hD9.ok.len
   refine jR<|jC (EE (Yf hD9 _ _ _ (FP pl2 keep) ci.sl (VB hD9.ok _ _) Zo) (Jp keep hD9.ok).1 (Jp keep hD9.ok).2) ?_;rintro _ cW ⟨aI,rfl,ck,ar,aJ⟩;replace a0:=a0.ext aq;have bx:∀q_,aI q_->¬Ek ts q_:=ar.apart bv a0.oL;replace a1:=a1.ext aq;have bz:∀q_,aI q_->¬own sa q_:=ar.apart bw a1.oL;replace K0:=K0.ext aq;have bA:∀q_,aI q_->w.heap.size<=q_:=ar.ge (fun q_ h_=>ab q_ (hFZ9 q_ h_)) K0.size;have b2:∀q_,aI q_->7<=q_:=fun q_ h_=>(ar q_ h_).elim (hFG9 q_) (fun h2_=>Aaa hLs (Aaa K0.size h2_));clear ar;refine jG ?_;refine Ai.condF rfl ?_;obtain⟨j9,hj1,hj2,ho9,hr9,hset9⟩:=hLd2.led.crashed Zo keep;have hrun9:=hLd2.led.run.take j9;have hst9:=hLd2.one j9 (Aaa hLd.ne hj1);have htk9:(us.take j9).length<=41:=by rw[List.length_take];omega
   have hA9:=hset9.append (b:=[UInt8.ofNat 1]++Aq (1+1)) (Fw (s:=kf0) (r:= .o 2) (show(2:Nat)<4611686018427387904 by decide)).1 (Fw (s:=kf0) (r:= .o 2) (show(2:Nat)<4611686018427387904 by decide)).2 (Ti hrun9 Zo);refine jG ?_;replace hL:=(hL.ext aq).keep aJ hFG9;refine jR<|jC (Ry _ _ _ (us.take j9) 1 _ ck hL b2 ho9 hr9 hrun9 hst9 Zd Zo hA9) ?_;rintro _ cX ⟨cY,aK,rfl,aL,aM,aN⟩;replace a0:=a0.kO aJ (Zf bv);have bB:∀q_,aK q_->¬Ek ts q_:=aM.apart bx a0.oL;replace a1:=a1.kO aJ (Zf bw);have bC:∀q_,aK q_->¬own sa q_:=aM.apart bz a1.oL;replace K0:=K0.new aJ (fun q_ h_=>ab q_ (hFZ9 q_ h_));have bD:∀q_,aK q_->w.heap.size<=q_:=aM.ge bA K0.size;have bE:∀q_,aK q_->7<=q_:=fun q_ h_=>(aM q_ h_).elim (b2 q_) (fun h2_=>Aaa hLs (Aaa K0.size h2_));have hgood9:FK (EL (FV kf0 (us.take j9)) (.o (1+1))):=hrun9.good good0|>.app (r:= .o (1+1)) (show(1+1:Nat)<4611686018427387904 by decide);have hfew9:=(RC (rs:=us.take j9) few0).app (.o (1+1));refine jG ?_;replace hL:=hL.keep aN b2;refine jT<|jC (Rz aL hL) ?_;rintro v_ cZ ⟨hv_,bF,aO⟩;obtain rfl:v_= .int .i64 2:=hv_;replace aL:=bF;clear bF;refine jG ?_;refine jV (E6 rfl rfl rfl) ?_;refine jG ?_;refine Ai.condF rfl ?_;refine jG ?_;replace hL:=hL.keep aO bE;refine jR<|jC (Qn _ _ _ _ _ _ _ aL hL bE hgood9 hfew9 Zo) ?_;rintro _ d0 ⟨t3,rfl,bG,b3,aP,cm,hTO_t3⟩;clear cm;replace aL:=bG;clear bG;refine jR<|jA ?_;intro bH d1 au b4 aQ;replace a0:=((a0.kO aN (Zf bx)).kO aO (Zf bB)).kO b3 (Zf bB);have cn:=An a0.oL au;replace a1:=((a1.kO aN (Zf bz)).kO aO (Zf bC)).kO b3 (Zf bC);have co:=An a1.oL au;have cp:=An aP.oL au;replace K0:=((K0.new aN bA).new aO bD).new b3 bD;have:=Aaa K0.size au;clear au;refine jR<|jS b4 ?_;intro d2 b4 aR;refine jG ?_;refine jV (CQ (a:=[]) (c:=[jp bH]) rfl rfl) ?_;replace a0:=(a0.ext aQ).kO aR (Aa cn);replace a1:=(a1.ext aQ).kO aR (Aa co);replace aP:=(aP.ext aQ).kO aR (Aa cp);refine jR<|jC (Qo _ ts _ bH t3 _ a1.sl a0 b4 aP Zo) ?_;rintro _ d3 ⟨rfl,cq⟩;rw[Xp hcov hj1 hj2 hTO_t3];refine jG ?_;refine jJ func4 ?_;replace K0:=((K0.ext aQ).n1 aR).ext cq;exact⟨_,rfl,rfl,K0⟩
end Go.Proofs.YtjkaicjmfgekjaaGreatDoor
