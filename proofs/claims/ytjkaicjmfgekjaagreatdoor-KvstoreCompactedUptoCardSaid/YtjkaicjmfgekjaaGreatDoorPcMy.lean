/-
  My, Mz, Na, Nd, Nb
-/
import Derived.Test.YtjkaicjmfgekjaaGreatDoorPcMr
import Derived.Test.YtjkaicjmfgekjaaGreatDoorPcYield
set_option linter.all false
set_option maxRecDepth 100000
set_option maxHeartbeats 4000000
namespace Go.Proofs.YtjkaicjmfgekjaaGreatDoor
open Go.Proofs.Tryz
attribute [local irreducible] RD RS AB RL RA RT CB Ai AD DP Cx BI By Ca B6 DJ Cf itemsN BZ AQ Bl BL Gr AK A2 At BW Ar A7 Aw A6 EG AL AN Cv setM Au Ap
section
def PR (a b:AE):Prop:=a.owner<b.owner\/(a.owner=b.owner/\a.key.data.toList<b.key.data.toList)
def TK (a b:AE):Int:=if a.owner=b.owner then Lib.compareBytes a.key.data.toList b.key.data.toList else a.owner-b.owner
instance (a b:AE):Decidable (PR a b):=by unfold PR;infer_instance
def GI {a b:AE}:TK a b<0↔PR a b:=by
 unfold TK PR;split
 ·rename_i h;rw[cmpB_lt];constructor
  ·intro k;exact .inr ⟨h,k⟩
  rintro(k|⟨-,k⟩)
  ·omega
  exact k
 rename_i h;constructor
 ·intro k;exact .inl Zo
 rintro(k|⟨k,-⟩)
 ·omega
 exact absurd k h
def Kp (a:AE):¬PR a a:=by
 rintro(h|⟨-,h⟩)
 ·omega
 exact RX _ h
def Fh {a b c:AE}(h:PR a b)(k:PR b c):PR a c:=by
 rcases h with h|⟨h1,h2⟩<;>rcases k with k|⟨k1,k2⟩
 ·exact .inl Zo
 ·exact .inl Zo
 ·exact .inl Zo
 exact .inr ⟨h1.trans k1,ltL_trans h2 k2⟩
def Kq {a b:AE}(h:¬PR a b)(k:¬PR b a):a=b:=by
 have e1:a.owner=b.owner:=by
  have h1:¬a.owner<b.owner:=λe=>h (.inl e)
  have h2:¬b.owner<a.owner:=λe=>k (.inl e)
  omega
 have e2:a.key=b.key:=Ls.1 (RY (λe=>h (.inr ⟨e1,e⟩)) (λe=>k (.inr ⟨e1.symm,e⟩)));exact AE.ext' e1 e2
def N9 (a:AE):Prop:=0<=a.owner/\a.owner<8
instance : Inhabited {x:AE//N9 x}:=⟨⟨⟨0,⟨#[]⟩⟩,by unfold N9;decide⟩⟩
def Z3 (a b:AE):Bool:= !decide (PR b a)
def Em (l:List AE):List AE:=l.mergeSort Z3
def Dk {l:List AE}:(Em l).Perm l:=Ab0 _ _
def QW {l:List AE}(hn:l.Nodup):(Em l).Pairwise PR:=by
 have h1:(Em l).Pairwise λa b=>Z3 a b=true:=by
  refine List.pairwise_mergeSort (λa b c h k=> ?_) (λa b=> ?_) l
  ·simp only[Z3,AaH,decide_eq_false_iff_not]at h k⊢;intro e;by_cases c1:PR a b
   ·exact k (Fh e c1)
   have:=Kq c1 h;subst this;exact k e
  simp only[Z3,Abp,AaH,decide_eq_false_iff_not];by_cases c:PR b a
  ·exact .inr λe=>Kp _ (Fh c e)
  exact .inl c
 have h2:(Em l).Nodup:=Dk.nodup_iff.2 hn;refine(List.Pairwise.and h1 h2).imp λ{a b} h=> ?_;obtain⟨h,hne⟩:=h;simp only[Z3,AaH,decide_eq_false_iff_not]at h;exact Decidable.byContradiction λc=>hne (Kq c h)
def N5 {α : Type} {r : α -> α -> Prop} (irr : ∀ a, ¬ r a a) (tr : ∀ {a b c}, r a b -> r b c -> r a c) : ∀ {l k : List α}, l.Pairwise r -> k.Pairwise r -> (∀ x, x ∈ l ↔ x ∈ k) -> l = k
  | [], [], _, _, _ => rfl
  | [], b :: k, _, _, h => by have := (h b).2 AaC; cases this
  | a :: l, [], _, _, h => by have := (h a).1 AaC; cases this
  | a :: l, b :: k, hl, hk, h => by
    rw [Aaw] at hl hk;have e : a = b := by
      rcases List.mem_cons.1 ((h a).1 AaC) with e | ha
      · exact e
      rcases List.mem_cons.1 ((h b).2 AaC) with e | hb
      · exact e.symm
      exact absurd (tr (hl.1 b hb) (hk.1 a ha)) (irr _)
    subst e;congr 1;refine N5 irr tr hl.2 hk.2 λx => ?_;constructor
    · intro hx;rcases List.mem_cons.1 ((h x).1 (Aau _ hx)) with e | hx2
      · subst e; exact absurd (hl.1 _ hx) (irr _)
      exact hx2
    intro hx;rcases List.mem_cons.1 ((h x).2 (Aau _ hx)) with e | hx2
    · subst e; exact absurd (hk.1 _ hx) (irr _)
    exact hx2
def HB (s:KF)(hs:List AE):Prop:=hs.Pairwise PR/\∀x,x∈hs↔s.h x
def HB.eq {s s':KF}{l k:List AE}(h:HB s l)(h':HB s' k)(e:s.h=s'.h):l=k:=
 N5 Kp Fh h.1 h'.1 λx=>by rw[h.2,h'.2,e]
def QX {s:KF}{l:List AE}(hn:l.Nodup)(h:∀x,x∈l↔s.h x):HB s (Em l):=⟨QW hn,λx=>Dk.mem_iff.trans (h x)⟩
end
section
open Go.Shelf
def sortHL_ren :Go.Shelf.Ren:=⟨fun|6=>222|15=>210|14=>272|28=>254|29=>255|20=>313|21=>314|22=>315|23=>316|24=>317|25=>318|26=>319|27=>320|46=>344|47=>285|48=>286|49=>345|50=>346|57=>356|n=>n,fun|22=>52|24=>110|25=>238|3=>3|39=>106|0=>0|53=>84|55=>74|4=>4|46=>299|45=>298|50=>228|5=>5|9=>9|66=>325|70=>318|76=>360|77=>361|n=>n,fun|n=>n⟩
def sortHL :Go.Proofs.SlLaysF0.n6 prog sortHL_ren:={
 mixed:=by kernel_rfl
 f6:=⟨Tryz.f222.name,by decide,func222.trans (congrArg some Zk)⟩
 f14:=⟨Tryz.f272.name,by decide,func272.trans (congrArg some Zk)⟩
 f15:=func210.trans (congrArg some Zk)
 f20:=⟨Tryz.f313.name,by decide,func313.trans (congrArg some Zk)⟩
 f21:=⟨Tryz.f314.name,by decide,func314.trans (congrArg some Zk)⟩
 f22:=⟨Tryz.f315.name,by decide,func315.trans (congrArg some Zk)⟩
 f23:=⟨Tryz.f316.name,by decide,func316.trans (congrArg some Zk)⟩
 f24:=⟨Tryz.f317.name,by decide,func317.trans (congrArg some Zk)⟩
 f25:=⟨Tryz.f318.name,by decide,func318.trans (congrArg some Zk)⟩
 f26:=⟨Tryz.f319.name,by decide,func319.trans (congrArg some Zk)⟩
 f27:=⟨Tryz.f320.name,by decide,func320.trans (congrArg some Zk)⟩
 f28:=func254.trans (congrArg some Zk)
 f29:=func255.trans (congrArg some Zk)
 f46:=⟨Tryz.f344.name,by decide,func344.trans (congrArg some Zk)⟩
 f47:=func285.trans (congrArg some Zk)
 f48:=func286.trans (congrArg some Zk)
 f49:=⟨Tryz.f345.name,by decide,func345.trans (congrArg some Zk)⟩
 f50:=⟨Tryz.f346.name,by decide,func346.trans (congrArg some Zk)⟩
 f57:=⟨Tryz.f356.name,by decide,func356.trans (congrArg some Zk)⟩
 t0:=underlying0
 a0:=Tryz.isAgg0
 z0:=Tryz.sizeOf0
 v0:=Tryz.zeroValue0
 t3:=underlying3
 a3:=Tryz.isAgg3
 z3:=Tryz.sizeOf3
 v3:=Tryz.zeroValue3
 t4:=underlying4
 a4:=Tryz.isAgg4
 z4:=Tryz.sizeOf4
 v4:=Tryz.zeroValue4
 t5:=underlying5
 a5:=Tryz.isAgg5
 z5:=Tryz.sizeOf5
 v5:=Tryz.zeroValue5
 t9:=underlying9
 a9:=Tryz.isAgg9
 z9:=Tryz.sizeOf9
 v9:=Tryz.zeroValue9
 t22:=underlying52
 a22:=Tryz.isAgg52
 z22:=Tryz.sizeOf52
 v22:=Tryz.zeroValue52
 t25:=underlying238
 a25:=Tryz.isAgg238
 z25:=Tryz.sizeOf238
 v25:=Tryz.zeroValue238
 t39:=underlying106
 a39:=Tryz.isAgg106
 z39:=Tryz.sizeOf106
 v39:=Tryz.zeroValue106
 t45:=underlying298
 a45:=Tryz.isAgg298
 z45:=Tryz.sizeOf298
 v45:=Tryz.zeroValue298
 t46:=underlying299
 a46:=Tryz.isAgg299
 z46:=Tryz.sizeOf299
 v46:=Tryz.zeroValue299
 t50:=underlying228
 a50:=Tryz.isAgg228
 z50:=Tryz.sizeOf228
 v50:=Tryz.zeroValue228
 t53:=underlying84
 a53:=Tryz.isAgg84
 z53:=Tryz.sizeOf84
 v53:=Tryz.zeroValue84
 t55:=underlying74
 a55:=Tryz.isAgg74
 z55:=Tryz.sizeOf74
 v55:=Tryz.zeroValue74
 t66:=underlying325
 a66:=Tryz.isAgg325
 z66:=Tryz.sizeOf325
 v66:=Tryz.zeroValue325
 t70:=underlying318
 a70:=Tryz.isAgg318
 z70:=Tryz.sizeOf318
 v70:=Tryz.zeroValue318
 t76:=underlying360
 a76:=Tryz.isAgg360
 z76:=Tryz.sizeOf360
 v76:=Tryz.zeroValue360
 t77:=underlying361
 a77:=Tryz.isAgg361
 z77:=Tryz.sizeOf361
 v77:=Tryz.zeroValue361}
end
def LL {α:Type}{l:List α}{j:Nat}{x:α}(h:l[j]? =some x):(l.eraseIdx j).length+1=l.length:=by
 have:=(List.getElem?_eq_some_iff.1 h).1
 rw[List.length_eraseIdx,if_pos this];omega
def Nc {α:Type}{l:List α}{j:Nat}{x:α}(h:l[j]? =some x):(l.eraseIdx j).length<l.length:=by have:=LL h;omega
def JT {α:Type}:∀{l:List α} {j:Nat} {x:α},l[j]? =some x->(x::l.eraseIdx j).Perm l
 |[],j,_,h=>by cases j<;>cases h
 |a::l,0,x,h=>by obtain rfl:=Option.some.inj h;exact List.Perm.refl _
 |a::l,j+1,x,h=>(List.Perm.swap a x (l.eraseIdx j)).trans ((JT (l:=l) (j:=j) h).cons a)
def QY {l:List (AE×Value)}{xs ys:List AE}{j:Nat}{x:AE}{v:Value}(h:l[j]? =some (x,v))(hp:(xs++l.map (·.1)).Perm ys):((xs++[x])++(l.eraseIdx j).map (·.1)).Perm ys:=by
 refine List.Perm.trans ?_ hp;rw[Aar];refine List.Perm.append_left xs ?_;exact(JT h).map (·.1)
section
open Go.RowKit
def rfAssign :Code->Code
 | .seq a b=>match rfAssign a with| .skip=>rfAssign b|c=>c
 | .block _ c=>rfAssign c
 | .rangeFunc _ _ a _=>a
 |_=> .skip
noncomputable def apAssign :Code:=rfAssign (Tryz.f271.body.getD .skip)
noncomputable def apBody :Code:=rfBody (Tryz.f271.body.getD .skip)
noncomputable def FR (fn:FuncId)(D:Nat)(tmps:Array Value)(st:LoopState)(pend:Option Code):Loop:=
 {state:=st,pending:=pend,fn,tmps,params:=#[7],assign:=apAssign,body:=apBody,defers:=D}
def De (sv x:Value)(B:Nat):Array Value:=#[.slice none 0 0,sv,jp B,undef,.slice none 0 0,undef,sv,x,undef,undef,undef,undef,undef]
def V6 (l B D:Nat)(a:Option Addr):Nat->Prop:=λq=>q=B\/(q=l\/(q=D\/own a q))
structure HE (w:World)(fn:FuncId)(l B D:Nat)(sv:Value)(N:Nat)(Z:Nat->Prop)(xs:List AE):Prop where
 ex:∃a c,Z=V6 l B D a/\AC w B [.slice a xs.length c] 52/\Af w 110 a c xs/\∀q,own a q->N<=q
 L:w.heap[l]? =some (.loop (FR fn D (De sv undef B) .ready none))
 K:w.heap[D]? =some (.deferred (some []))
 ap:B≠l/\D≠l/\D≠B
section
variable {w w' W:World}{S Z:Nat->Prop}{fn:FuncId}{l B D N:Nat}{sv:Value}{xs:List AE}
def Gp {α:Type}[Enc α]{T:TypeId}{a:Option Addr}{cap j:Nat}{xs:List α}{o:Obj}(h:Af w T a cap xs)(ho:w.heap[j]? =some o)(hn:∀c f,o≠ .cells c T f):¬own a j:=by
 rintro⟨x,rfl,rfl⟩;rcases h.cases with⟨e,_⟩|⟨g,cur,e,hg,_⟩
 ·cases e
 obtain rfl:=Option.some.inj e;exact hn _ _ (Option.some.inj (ho.symm.trans hg))
def HE.oL (h:HE w fn l B D sv N Z xs):∀q,Z q->q<w.heap.size:=by
 obtain⟨a,c,rfl,hB,hO,-⟩:=h.ex;rintro q (rfl|rfl|rfl|hq)
 ·exact hB.lt
 ·exact(Array.getElem?_eq_some_iff.1 h.L).1
 ·exact(Array.getElem?_eq_some_iff.1 h.K).1
 exact hO.oL q hq
def HE.kO (h:HE w fn l B D sv N Z xs)(K:Ae S w w')(hp:∀q,Z q->¬S q):HE w' fn l B D sv N Z xs:=by
 have hlt:=h.oL;obtain⟨a,c,rfl,hB,hO,hg⟩:=h.ex;have i1:V6 l B D a B:= .inl rfl;have i2:V6 l B D a l:= .inr (.inl rfl);have i3:V6 l B D a D:= .inr (.inr (.inl rfl));exact⟨⟨a,c,rfl,hB.keep K (hp _ i1),hO.kO K λq hq=>hp q (.inr (.inr (.inr hq))),hg⟩,(K.block l (hlt l i2) (hp _ i2)).trans h.L,(K.block D (hlt D i3) (hp _ i3)).trans h.K,h.ap⟩
def HE.ext (h:HE w fn l B D sv N Z xs)(K:As w w'):HE w' fn l B D sv N Z xs:=h.kO K λ_ _ e=>e
def HE.yield (h:HE w fn l B D sv N Z xs)(x:Value):(Instr.yield l #[x]).run prog w= .ok (.round l fn (De sv x B) apAssign apBody) w:=by
 simpa[FR,De]using run_yield (P:=prog) (args:=#[x]) h.L rfl
def XS (sv x:Value)(B:Nat):({tmps:=De sv x B,defers:=[]}:Act)=Ci ⟨13,[]⟩ (JA (De sv x B)):=by
 unfold Ci;congr 1
def XT (h:HE W fn l B D sv N Z xs)(hl:xs.length<=1000000)(hN:N<=W.heap.size)(x:AE):
  RoundIn Fence.wide 0 prog l fn (De sv (Enc.val x) B) apAssign apBody W λe W'=>e= .returned (.bool true)/\∃Z':Nat->Prop,HE W' fn l B D sv N Z' (xs++[x])/\AR W Z Z'/\Ae Z W W':=by
 obtain⟨a,c,rfl,hB,hO,hg⟩:=h.ex;obtain⟨hBl,hDl,hDB⟩:=h.ap;have hll:l<W.heap.size:=(Array.getElem?_eq_some_iff.1 h.L).1;have hDlt:D<W.heap.size:=(Array.getElem?_eq_some_iff.1 h.K).1;have hBlt:=hB.lt;have nB:¬own a B:=HA hO hB Zd;have nl:¬own a l:=Gp hO h.L (λ_ _ e=>by cases e);have nD:¬own a D:=Gp hO h.K (λ_ _ e=>by cases e);refine roundIn_of_wpIn trivial ?_;rw[XS];simp only[apAssign,apBody,rfAssign,rfBody,Tryz.f271,AbE];refine wpIn_region_lit ?_;refine ER (by intro c h;cases h) (λ_=>trivial) (Ra ty110) ?_;have K1:=As.push W (.cells (Value.cells (.agg #[.int .i64 0,.string ⟨#[]⟩])) 110);have hX1:=F0 W (Value.cells (.agg #[.int .i64 0,.string ⟨#[]⟩])) 110;have hs1:W.heap.size<({W with heap:=W.heap.push (.cells (Value.cells (.agg #[.int .i64 0,.string ⟨#[]⟩])) 110)}:World).heap.size:=by simp
 generalize ({W with heap:=W.heap.push (.cells (Value.cells (.agg #[.int .i64 0,.string ⟨#[]⟩])) 110)}:World)=W1 at*;have hst:=Gu (P:=prog) (v:=Enc.val x) (o:=0) ty110 rfl (by intro u hu;simp only[Enc.val,Value.cells,Aai,List.not_mem_nil,or_false]at hu;rcases hu with rfl|rfl<;>rfl) hX1 Zd;refine JS (by intro c h;cases h) (λ_=>trivial) (w':=W1.setRow W.heap.size [.int .i64 x.owner,.string x.key].toArray) (by
  simp only[execOp,Sem.run_bind];rw[show rd ⟨13,[]⟩ _ (.tmp 5)=jp W.heap.size from rfl,show rd ⟨13,[]⟩ _ (.tmp 7)=Enc.val x from rfl];simp only[Instr.storeAt,Instr.sureAddr,Sem.run_bind,Sem.run_pure,Result.andThen_ok,hst];rfl) ?_
 have hX2:AC (W1.setRow W.heap.size [.int .i64 x.owner,.string x.key].toArray) W.heap.size [.int .i64 x.owner,.string x.key] 110:=HN hX1 _;have K2:=Ae.setRow W1 W.heap.size [.int .i64 x.owner,.string x.key].toArray;generalize W1.setRow W.heap.size [.int .i64 x.owner,.string x.key].toArray=W2 at*;have e2:∀q,q<W.heap.size->W2.heap[q]? =W.heap[q]? :=λq hq=>(K2.block q Zo (λe=>by simp only[one]at e;omega)).trans (K1.block q hq id)
 have K02:As W W2:=K1.new K2 λq hq=>by simp only[one]at hq;omega
 have hL2:W2.heap[l]? =some (.loop (FR fn D (De sv undef B) .ready none)):=(e2 l hll).trans h.L;have hbr:=run_beginRound (P:=prog) hL2 rfl;refine⟨_,hbr,?_⟩;have hl2:l<W2.heap.size:=(Array.getElem?_eq_some_iff.1 hL2).1;have hK3:Ae (one l) W2 (W2.putObj l (.loop {FR fn D (De sv undef B) .ready none with state:= .busy})):=E3 W2 l _;have hL3:(W2.putObj l (.loop {FR fn D (De sv undef B) .ready none with state:= .busy})).heap[l]? =some (.loop {FR fn D (De sv undef B) .ready none with state:= .busy}):=World.putObj_heap_same hl2;generalize W2.putObj l (.loop {FR fn D (De sv undef B) .ready none with state:= .busy})=W3 at*;have hB3:=(hB.ext K02).keep hK3 (λe=>hBl e);have hO3:=(hO.ext K02).kO hK3 (λq hq (e:q=l)=>nl (e▸hq));have hX3:=hX2.keep hK3 (λ(e:W.heap.size=l)=>by omega);have hD3:W3.heap[D]? =some (.deferred (some [])):=(hK3.block D (by have:=K02.size;omega) hDl).trans ((K02.block D hDlt id).trans h.K);refine wpIn_block ?_;refine wpIn_region_lit ?_;refine ER (by intro c h;cases h) (λ_=>trivial) (HM (v:= .slice a xs.length c) ty52 rfl rfl (hB3.cl.field (i:=0) rfl)) ?_;refine ER (by intro c h;cases h) (λ_=>trivial) (B9 (y:=x) (v:=Enc.val x) ty110 rfl (show Cl W3 W.heap.size 0 (cellsOf x)from hX3.cl) rfl) ?_;have hbs:=run_buildSlice (P:=prog) (w:=W3) (t:=52) underlying52 ty110 [x] ((#[(0,Operand.tmp 9)]:Array (Nat×Operand)).map λ(i,y)=>(i,rd ⟨13,[]⟩ (Bj (Bj (Bj (JA (De sv (Enc.val x) B)) (some 5) (jp W.heap.size)) (some 8) (.slice a xs.length c)) (some 9) (Enc.val x)) y)) (by simp only[Aa9,Aaf,Aav];rfl) (by show 1*2<=16777216;decide);refine ER (by intro c h;cases h) (λ_=>trivial) (v:= .slice (some ⟨W3.heap.size,0,none⟩) 1 1) (w':={W3 with heap:=W3.heap.push (.cells (AS [x]).toArray 110)}) (by
  unfold X;simp only[execOp,Sem.run_bind];have hbs2:=hbs;rw[show[x].length=1 from rfl]at hbs2;simp only[hbs2,Result.andThen_ok,Sem.run_pure]) ?_
 have K4:=As.push W3 (.cells (AS [x]).toArray 110);have hN4:=Kx W3 110 [x] (by show 1<=maxLen;simp only[maxLen];omega);generalize ({W3 with heap:=W3.heap.push (.cells (AS [x]).toArray 110)}:World)=W4 at*;have hB4:=hB3.ext K4;have hO4:=hO3.ext K4;obtain⟨a',c',W5,hap,hO5,K5,hm5,-⟩:=Ky (P:=prog) (w:=W4) (ty:=52) (cap2:=1) underlying52 ty110 rfl hO4 hN4.sl (by simp only[maxLen,Aa2];omega) (by simp only[Aa2];omega);refine ER (by intro c h;cases h) (λ_=>trivial) (v:= .slice a' (xs++[x]).length c') (w':=W5) (by
  unfold X;have h1:rd ⟨13,[]⟩ (Bj (Bj (Bj (Bj (JA (De sv (Enc.val x) B)) (some 5) (jp W.heap.size)) (some 8) (.slice a xs.length c)) (some 9) (Enc.val x)) (some 10) (.slice (some ⟨W3.heap.size,0,none⟩) 1 1)) (.tmp 8)= .slice a xs.length c:=rfl;have h2:rd ⟨13,[]⟩ (Bj (Bj (Bj (Bj (JA (De sv (Enc.val x) B)) (some 5) (jp W.heap.size)) (some 8) (.slice a xs.length c)) (some 9) (Enc.val x)) (some 10) (.slice (some ⟨W3.heap.size,0,none⟩) 1 1)) (.tmp 10)= .slice (some ⟨W3.heap.size,0,none⟩) [x].length 1:=rfl;simp only[execOp,resolve,invoke,builtin,Sem.run_bind,Sem.run_pure,Result.andThen_ok,Aa9,Aaf,Aav,h1,h2,hap]) ?_
 have s4:W3.heap.size<=W4.heap.size:=K4.size;have s3:W2.heap.size<=W3.heap.size:=hK3.size;have s2:=K02.size;have hB5:=hB4.keep K5 nB;have hst2:=Gu (P:=prog) (v:= .slice a' (xs++[x]).length c') (o:=0) ty52 rfl (by intro u hu;simp only[Value.cells,Aai,List.not_mem_nil,or_false]at hu;subst hu;rfl) hB5 (Aac 1);refine JS (by intro c h;cases h) (λ_=>trivial) (w':=W5.setRow B [.slice a' (xs++[x]).length c'].toArray) (by
  simp only[execOp,Sem.run_bind];rw[show rd ⟨13,[]⟩ _ (.tmp 2)=jp B from rfl,show rd ⟨13,[]⟩ _ (.tmp 11)= .slice a' (xs++[x]).length c' from rfl];simp only[Instr.storeAt,Instr.sureAddr,Sem.run_bind,Sem.run_pure,Result.andThen_ok,hst2];rfl) ?_
 have hB6:AC (W5.setRow B [.slice a' (xs++[x]).length c'].toArray) B [.slice a' (xs++[x]).length c'] 52:=HN hB5 _;have K6:=Ae.setRow W5 B [.slice a' (xs++[x]).length c'].toArray;have nB':¬own a' B:=HA hO5 hB5 Zd;have hO6:=hO5.kO K6 (λq hq (e:q=B)=>nB' (e▸hq));generalize W5.setRow B [.slice a' (xs++[x]).length c'].toArray=W6 at*;have t5:W4.heap.size<=W5.heap.size:=K5.size;have hL4:=(K4.block l Zo id).trans hL3;have hL6:=(K6.block l Zo (λ(e:l=B)=>hBl e.symm)).trans ((K5.block l Zo nl).trans hL4);have hD6:=(K6.block D Zo (λ(e:D=B)=>hDB e)).trans ((K5.block D Zo nD).trans ((K4.block D Zo id).trans hD3));have hl6:l<W6.heap.size:=(Array.getElem?_eq_some_iff.1 hL6).1;have K7:=E3 W6 l (.loop (FR fn D (De sv undef B) .ready none));have nl':¬own a' l:=Gp hO6 hL6 (λ_ _ e=>by cases e);have hmv:∀q,own a' q->own a q\/W.heap.size<=q:=λq hq=>(I0 hm5 q hq).imp id λe=>by omega
 refine⟨_,_,run_endRound none hL6,rfl,V6 l B D a',⟨⟨a',c',rfl,hB6.keep K7 hBl,hO6.kO K7 (λq hq (e:q=l)=>nl' (e▸hq)),λq hq=>(hmv q hq).elim (hg q) λe=>by omega⟩,World.putObj_heap_same hl6,(World.putObj_heap_other hDl).trans hD6,h.ap⟩,?_,?_⟩
 ·rintro q (e|e|e|e)
  ·exact .inl (.inl e)
  ·exact .inl (.inr (.inl e))
  ·exact .inl (.inr (.inr (.inl e)))
  exact(hmv q e).imp (λe=> .inr (.inr (.inr e))) id
 have i1:∀q,one B q->V6 l B D a q:=λq e=> .inl e
 have i2:∀q,one l q->V6 l B D a q:=λq e=> .inr (.inl e)
 have i3:∀q,own a q->V6 l B D a q:=λq e=> .inr (.inr (.inr e))
 exact(((((K02.mono (S':=V6 l B D a) λ_ _ e=>e.elim).trans hK3 λq _=>i2 q).trans K4 λ_ _ e=>e.elim).trans K5 λq _=>i3 q).trans K6 λq _=>i1 q).trans K7 λq _=>i2 q
end
end
attribute [local irreducible] X
def Z4 (m:Nat)(w:World):
  Calls prog 170 #[.map (some m)] w (AU (λv w'=>∃b,v= .func (.func 223) #[] #[jp b]/\AC w' b [.map (some m)] 91/\w.heap.size<=b/\As w w')):=by
 refine kD (n:=4) func170 ?_;refine kQ ?_;intro a0 a4 a1 a2 a3;have:w.heap.size<=a0:=a1;clear a1;have K0:=(a3:As w _);refine kE (Cy (v:= .nilFunc) rfl) ?_;refine kE (Dm (a:=[]) (c:=[jp a0]) rfl rfl) ?_;refine jJ func170 ?_;exact⟨_,rfl,_,rfl,a2,Zo,K0⟩
def XU (fn:FuncId)(l B D Bm m N:Nat)(sv:Value)(Z:Nat->Prop)(ps:List (AE×Value))(w:World)(hb:AC w Bm [.map (some m)] 91)(hM:Aq w m ps)(hA:HE w fn l B D sv N Z [])(hap:¬Z Bm)(hap2:¬Z m)(hN:N<=w.heap.size)(hl:ps.length<=1000000):
  Calls prog 223 #[.func (.yield l) #[] #[],jp Bm] w (AU (λv w'=>v= .tuple #[]/\∃(Z':Nat->Prop) (xs:List AE),HE w' fn l B D sv N Z' xs/\xs.Perm (ps.map (·.1))/\AR w Z Z'/\Ae Z w w')):=by
 refine kD (n:=14) func223 ?_;refine jR<|AB.rangeMap underlying91 rfl hM ?_;intro a1 aC a4 ah a7;have ap:=Ay (BB a4) hb.lt;have aq:=Ag (BB a4) hM.oL;have ar:=Ag (BB a4) hA.oL;have au:∀q_,one a1 q_->q_<w.heap.size->Z q_:=GY (Aac _) (BB a4);clear a4;have K0:=(a7:As w _).to (S:=Z);refine jG ?_;replace hb:=hb.ext a7;replace hM:=hM.ext a7;replace hA:=hA.ext a7;refine Ai.loop (ι:=Nat) (λk ρ' w'=>∃lr:List (AE×Value),∃la:Option (AE×Value),∃xs:List AE,∃Zk9:Nat->Prop,Holds ρ' [(0,.func (.yield l) #[] #[]),(5,jp a1)]/\Ae Z w w'/\(AC w' Bm [.map (some m)] 91)/\(Aq w' m ps)/\(Cj w' a1 m lr la)/\(HE w' fn l B D sv N Zk9 xs)/\(¬one a1 Bm)/\(∀q_,one a1 q_->¬one m q_)/\(∀q_,one a1 q_->¬Zk9 q_)/\(∀q_,one a1 q_->q_<w.heap.size->Z q_)/\(¬Zk9 Bm)/\(∀q_,Zk9 q_->¬one m q_)/\(∀q_,Zk9 q_->q_<w.heap.size->Z q_)/\(k=lr.length)/\(xs.length+lr.length=ps.length)/\((xs++lr.map (·.1)).Perm (ps.map (·.1)))) (λk=>k) ps.length ?_ ?_
 ·refine⟨ps,none,[],Z,⟨rfl,rfl,trivial⟩,K0,hb,hM,ah,hA,ap,aq,ar,au,hap,(λq_ h_ (e_:q_=m)=>hap2 (e_▸h_)),(λq_ h_ _=>h_),?_,?_,?_⟩
  ·rfl
  ·exact Aaq _
  exact List.Perm.refl _
 clear hb hM hA ah;clear K0;rintro k aD aE ⟨lr,la,xs,Zk9,ai,K0,hb,hM,a0,a2,aj,ak,ac,al,am,ad,ae,hk,hxl,hperm⟩ ih1;obtain⟨ρ₀,rfl⟩:=ai.ex;clear ai;refine jG ?_;refine jR<|AB.nextMap rfl a0 ?_ ?_
 ·intro h0_23;replace h0_23:lr=[]:=h0_23;refine kG ?_;refine Ai.fin0 func223 rfl ?_;subst h0_23;exact⟨_,rfl,rfl,_,_,a2,by simpa using hperm,λq_ h_=>(Abn q_ w.heap.size).elim (λl_=> .inl (ae q_ h_ l_)) .inr,K0⟩
 intro jx an aF aG h0_27 af a8;obtain⟨x,hx0⟩:∃x,x=an:=⟨_,rfl⟩;rw[<-hx0]at h0_27 af;have hx:=h0_27;clear h0_27;rw[show MKey.enc an=Enc.val x from by rw[hx0];rfl];replace K0:=K0.trans a8 (λx hlt hx=>al x hx hlt);replace a0:=af;clear af;refine kI ?_;refine kE (Nj rfl a0) ?_;refine kR ?_;intro aH aI a3 ag a5;replace hb:=hb.keep a8 aj;have aJ:=Ak hb.lt a3;replace hM:=hM.kO a8 (Zf ak);have ao:=An hM.oL a3;have av:=An a0.oL a3;replace a2:=a2.kO a8 (Zf ac);have aw:=An a2.oL a3;have:=Aaa K0.size a3;clear a3;refine jR<|jS ag ?_;intro aK ag a6;replace K0:=K0.ext a5;replace K0:=K0.n1 a6;refine RL.nil (.seq (.regionI ?_));refine QV.val (D5 (v:= .func (.yield l) #[] #[]) rfl) ?_;refine QV.val (Q9 ty110 rfl rfl (ag.cl.drop 0 2)) ?_;replace a2:=(a2.ext a5).kO a6 (Aa aw);refine QV.yield (vals:=[.agg #[.int .i64 x.owner,.string x.key]]) rfl rfl (a2.yield _) (XT (x:=x) a2 Zo (by first|omega|(have:=K0.size;omega))) ?_;rintro _ aL ⟨rfl,a9,ax,aa,ab⟩;refine⟨_,rfl,?_⟩;replace hb:=(hb.ext a5).kp a6;have ay:¬a9 Bm:=aa.not am hb.lt;replace hM:=(hM.ext a5).kO a6 (Aa ao);have az:∀q_,a9 q_->¬one m q_:=aa.apart ad hM.oL;replace a0:=(a0.ext a5).kO a6 (Aa av) (Aa ao);have aA:∀q_,a9 q_->¬one a1 q_:=aa.apart (Zf ac) a0.oL;have aB:∀q_,a9 q_->q_<w.heap.size->Z q_:=aa.inS ae K0.size;replace K0:=K0.trans ab (λx hlt hx=>ae x hx hlt);refine QV.val (Bp (b:=true) rfl) ?_;refine QV.nil ?_;refine kH ?_;refine ih1 ((lr.eraseIdx jx).length) _ _ ?_ (by rw[hk];exact Nc hx);replace hb:=hb.keep ab am;replace hM:=hM.kO ab (Zf ad);replace a0:=a0.kO ab ac (Zf ad);refine⟨lr.eraseIdx jx,_,xs++[x],_,⟨rfl,rfl,trivial⟩,K0,hb,hM,a0,ax,aj,ak,(Zf aA),al,ay,az,aB,?_,?_,?_⟩
 ·rfl
 ·have h9_:=Nc hx;have h8_:=LL hx;simp only[Aab,Aa2];omega
 exact QY hx hperm
section
open Go.RowKit
def PD (Bm m:Nat)(ps:List (AE×Value))(w:World)(hb:AC w Bm [.map (some m)] 91)(hM:Aq w m ps)(hl:ps.length<=1000000):
  Calls prog 271 #[.slice none 0 0,.func (.func 223) #[] #[jp Bm]] w (AU λv w'=>∃a c xs,v= .slice a (xs:List AE).length c/\Af w' 110 a c xs/\(∀q,own a q->w.heap.size<=q)/\xs.Perm (ps.map (·.1))/\As w w'):=by
 refine(callsIn_wide (n:=0)).1 ?_;refine callsIn_of_wp_marks func271 rfl trivial ?_ rfl;simp only[Tryz.ntmps271,Aa8,Aaj,Aas,Nat.reduceAdd,Nat.reduceSub,Array.replicate_succ,Array.replicate_zero,List.push_toArray,List.append_toArray,Aay,AaW];gi_wp2
 refine wpIn_rangeFunc ?_;intro fn hfn;obtain⟨sv,hsv⟩:∃sv:Value,sv= .func (.func 223) #[] #[jp Bm]:=⟨_,rfl⟩
 obtain⟨W0,hW0⟩:∃W0,w.alloc (.cells #[.slice none 0 0] 52)=W0:=⟨_,rfl⟩
 have hKw:As w W0:=hW0▸As.push w _;have hB0:AC W0 w.heap.size [.slice none 0 0] 52:=hW0▸F0 w _ 52;have hs0:W0.heap.size=w.heap.size+1:=by rw[<-hW0];simp
 rw[hW0];obtain⟨W1,hW1⟩:∃W1,(W0.alloc (.deferred (some []))).alloc (.loop (FR fn W0.heap.size (De sv undef w.heap.size) .ready none))=W1:=⟨_,rfl⟩
 have hK1:As W0 W1:=hW1▸(As.push W0 _).ext (As.push _ _);have hs1:W1.heap.size=W0.heap.size+2:=by rw[<-hW1];simp
 have hL1:W1.heap[W0.heap.size+1]? =some (.loop (FR fn W0.heap.size (De sv undef w.heap.size) .ready none)):=by
  rw[<-hW1];have:=World.alloc_heap_new (W0.alloc (.deferred (some []))) (.loop (FR fn W0.heap.size (De sv undef w.heap.size) .ready none));rwa[World.size_alloc]at this
 have hD1:W1.heap[W0.heap.size]? =some (.deferred (some [])):=by
  rw[<-hW1];exact(Below.heap_alloc _ _ _ Zs).trans (World.alloc_heap_new W0 _)
 have hA:HE W1 fn (W0.heap.size+1) w.heap.size W0.heap.size sv w.heap.size (V6 (W0.heap.size+1) w.heap.size W0.heap.size none) []:=
  ⟨⟨none,0,rfl,hB0.ext hK1,Af.nil _ _,λq hq=>absurd hq (Ad q)⟩,hL1,hD1,by omega,by omega,by omega⟩
 have hKW1:As w W1:=hKw.ext hK1;have hnew:∀q,V6 (W0.heap.size+1) w.heap.size W0.heap.size none q->w.heap.size<=q:=by
  rintro q (rfl|rfl|rfl|hq)
  ·omega
  ·omega
  ·omega
  exact absurd hq (Ad q)
 have hblt:=hb.lt;have hmlt:=hM.lt;refine⟨W0.heap.size+1,[{target:= .collected W0.heap.size,args:=#[]}],W1,{target:= .fn (.func 223) #[jp Bm],args:=#[.func (.yield (W0.heap.size+1)) #[] #[]]},W1,223,
  #[.func (.yield (W0.heap.size+1)) #[] #[],jp Bm],W1,?_,?_,λ_ _=>trivial,?_,λh=>absurd h (by simp[Fence.wide]),?_⟩
 ·rw[<-hW1,hsv];exact run_enterLoop_outer _ _ _ _ _
 ·simp[resolve,go_sem]
 ·simp[invoke,go_sem]
 refine(callsIn_wide.2 (XU fn (W0.heap.size+1) w.heap.size W0.heap.size Bm m w.heap.size sv _ ps W1 (hb.ext hKW1) (hM.ext hKW1) hA (λh=>absurd (hnew _ h) Zo) (λh=>absurd (hnew _ h) Zo) Zo hl)).mono ?_;rintro e W2 ⟨v,rfl,rfl,Z',xs,h2,hp,hmv,K2⟩;have hend:=run_endLoop (P:=prog) h2.L (by simp[FR]);have hK3:=E3 W2 (W0.heap.size+1) (.loop {FR fn W0.heap.size (De sv undef w.heap.size) .ready none with state:= .exhausted});have hL2:=h2.L;have hlt2:=h2.oL;obtain⟨a,c,rfl,hB2,hO2,hg2⟩:=h2.ex;have nl:¬own a (W0.heap.size+1):=Gp hO2 hL2 (λ_ _ e=>by cases e);generalize W2.putObj (W0.heap.size+1) (.loop {FR fn W0.heap.size (De sv undef w.heap.size) .ready none with state:= .exhausted})=W3 at*;have hb3:=hB2.keep hK3 (λ(e:w.heap.size=W0.heap.size+1)=>by omega);have hO3:=hO2.kO hK3 (λq hq (e:q=W0.heap.size+1)=>nl (e▸hq));have hc3:W3.cell? ⟨w.heap.size,0,none⟩=some (.slice a xs.length c):=hb3.cl.head;have hD3:W3.heap[W0.heap.size]? =some (.deferred (some [])):=(hK3.block _ (hlt2 _ (.inr (.inr (.inl rfl)))) (λ(e:W0.heap.size=W0.heap.size+1)=>by omega)).trans h2.K;refine⟨none,W3,hend,?_⟩;gi_wp2
 try rw[<-hs0]
 refine⟨by simp,.inl ⟨_,_,rfl,run_takeDeferred hD3,?_⟩⟩;have nD:¬own a W0.heap.size:=Gp hO3 hD3 (λ_ _ e=>by cases e);have K4:=E3 W3 W0.heap.size (.deferred none);refine⟨_,results_tmp rfl _ _ _,_,rfl,a,c,xs,rfl,hO3.kO K4 (λq hq (e:q=W0.heap.size)=>nD (e▸hq)),hg2,hp,?_⟩;exact((hKW1.new K2 λx hx=>hnew x hx).new hK3 λx hx=>by simp only[one]at hx;omega).new K4 λx hx=>by simp only[one]at hx;omega
end
def iK (a b:AE)(w:World)(ha:N9 a)(hb:N9 b):
  Calls prog 171 #[.agg #[.int .i64 a.owner,.string a.key],.agg #[.int .i64 b.owner,.string b.key]] w (AU (λv w'=>v= .int .i64 (TK a b)/\As w w'/\Gr w w')):=by
 unfold N9 at ha hb;obtain⟨ha1,ha2⟩:=ha;obtain⟨hb1,hb2⟩:=hb;have G0:=Gr.refl w;refine kD (n:=20) func171 ?_;refine jR<|AB.boxG (v:= .agg #[.int .i64 a.owner,.string a.key]) rfl ?_;intro a2 a6 a3 a0 a7 hG_;replace a0:AC a6 a2 [.int .i64 a.owner,.string a.key] 110:=a0;have:w.heap.size<=a2:=a3;clear a3;have K0:=(a7:As w _);replace G0:=Gr.trans G0 hG_;clear hG_;refine jR<|AB.boxG (v:= .agg #[.int .i64 b.owner,.string b.key]) rfl ?_;intro a8 a9 a1 a4 a5 hG_;replace a4:AC a9 a8 [.int .i64 b.owner,.string b.key] 110:=a4;have aa:=Ak a0.lt a1;have:=Aaa K0.size a1;clear a1;replace G0:=Gr.trans G0 hG_;clear hG_;replace a0:=a0.ext a5;refine jG ?_;replace K0:=K0.ext a5;refine jF ?_ ?_
 ·intro hc9;refine jG ?_;refine kE (B8 rfl rfl Zo Zo) ?_;refine jJ func171 ?_;exact⟨_,rfl,by unfold TK;(repeat' split)<;>first|rfl|omega,K0,G0⟩
 intro hc9;refine jG ?_;refine kS (Kg (Any.strings_Compare cmpSL a.key b.key _)) ?_;rintro _ _ ⟨rfl,rfl⟩;refine kL func171 ?_;exact⟨_,rfl,by unfold TK;(repeat' split)<;>first|rfl|omega,K0,G0⟩
section
open Go.Shelf Go.RowKit Go.Lib Go.Sort
def Wv (x y:{x:AE//N9 x}):Int:=TK x.1 y.1
def swoH :SWO (ltOf Wv) where
 irrefl x:=by simp only[ltOf,Wv];exact decide_eq_false (λh=>Kp _ (GI.1 h))
 trans x y z h1 h2:=by simp only[ltOf,Wv]at*;exact decide_eq_true (GI.2 (Fh (GI.1 (of_decide_eq_true h1)) (GI.1 (of_decide_eq_true h2))))
 ntrans x y z h1 h2:=by
  simp only[ltOf,Wv,decide_eq_false_iff_not,GI]at*;intro e;by_cases c1:PR y.1 x.1
  ·exact h2 (Fh c1 e)
  have:=Kq c1 h1;rw[this]at h2;exact h2 e
def jm (x y:{x:AE//N9 x})(h1:ltOf Wv x y=false)(h2:ltOf Wv y x=false):x=y:=by
 simp only[ltOf,Wv,decide_eq_false_iff_not,GI]at*;exact Subtype.ext (Kq h1 h2)
def TL {a:Option Addr}{xs:List AE}{c:Nat}{w:World}(ho:Af w 110 a c xs)(hx:∀x∈xs,N9 x)(hl:xs.length<=4294967295):
  Calls prog 222 #[.slice a xs.length c,.func (.func 171) #[] #[]] w (AU λv w'=>v= .tuple #[]/\Af w' 110 a c (Em xs)/\Ae (own a) w w'):=by
 have e:(xs.attachWith N9 hx).map Subtype.val=xs:=Acr hx;have h:=NM (α:={x:AE//N9 x}) (β:=AE) sortHL Subtype.val Tryz.isAgg110 Tryz.sizeOf110 Wv swoH jm 171 (C1 func171 rfl Zk) (λx y W=>(iK x.1 y.1 W x.2 y.2).mono λe w' ⟨v,h1,h2,_,h3⟩=>by unfold Gr at h3;exact⟨by rw[h1,h2];rfl,h3⟩) (xs.attachWith N9 hx) (by rw[e];exact ho) (by rw[Acs];exact hl);rw[Lo Subtype.val (λx y=> !(ltOf Wv) y x) Z3 (λa b=>by simp only[ltOf,Wv,Z3,GI]),e]at h;exact h
end
def TM (Bm m:Nat)(ps:List (AE×Value))(w:World)(hb:AC w Bm [.map (some m)] 91)(hM:Aq w m ps)(hl:ps.length<=1000000):
  Calls prog 221 #[.func (.func 223) #[] #[jp Bm]] w (AU (λv w'=>∃a c xs,v= .slice a (xs:List AE).length c/\Af w' 110 a c xs/\(∀q,own a q->w.heap.size<=q)/\xs.Perm (ps.map (·.1))/\As w w')):=by
 refine kD (n:=5) func221 ?_;refine kS (PD Bm m ps _ hb hM Zo) ?_;rintro _ a8 ⟨a1,a2,a3,rfl,a4,a0,a5,a6⟩;have a7:=Bg (Aac _) a0;clear a0;have K0:=(a6:As w _);refine kL func221 ?_;exact⟨_,rfl,a1,a2,a3,rfl,a4,a7,a5,K0⟩
def V7 (Bm m:Nat)(ps:List (AE×Value))(w:World)(hb:AC w Bm [.map (some m)] 91)(hM:Aq w m ps)(hl:ps.length<=1000000)(hsm:∀p∈ps,N9 p.1):
  Calls prog 169 #[.func (.func 223) #[] #[jp Bm],.func (.func 171) #[] #[]] w (AU (λv w'=>∃a c xs,v= .slice a (Em xs).length c/\Af w' 110 a c (Em xs)/\(∀q,own a q->w.heap.size<=q)/\xs.Perm (ps.map (·.1))/\As w w')):=by
 refine kD (n:=12) func169 ?_;refine kS (TM Bm m ps _ hb hM Zo) ?_;rintro _ aa ⟨a6,a7,a0,rfl,a2,a1,a3,a8⟩;have ab:=Ay a1 hb.lt;have ac:=Ag a1 hM.oL;have a4:=Bg (Aac _) a1;clear a1;have K0:=(a8:As w _);refine jG ?_;have hsm_:∀x∈a0,N9 x:=λx hx=>by obtain⟨p,hp_,rfl⟩:=List.mem_map.1 (a3.mem_iff.1 hx);exact hsm p hp_
 have hxl_:a0.length=ps.length:=by rw[a3.length_eq,Aad]
 refine kS (TL a2 hsm_ Zo) ?_;rintro _ ad ⟨rfl,a5,a9⟩;replace a2:=a5;clear a5;have hsl_:(Em a0).length=a0.length:=Dk.length_eq;refine kL func169 ?_;replace K0:=K0.new a9 a4;exact⟨_,rfl,a6,a7,a0,by rw[Dk.length_eq],a2,a4,a3,K0⟩
def V8 (b lg m1 m2 m3:Nat)(st:Int)(ps:List (AE×Value))(w:World)(hb:AC w b [.int .i32 1,.int .u32 0,jp lg,.int .i64 st,.map (some m1),.map (some m2),.map (some m3)] 94)(hM2:Aq w m2 ps)(n3:b≠m2)(hsm:∀p∈ps,N9 p.1)(hl:ps.length<=1000000):
  Calls prog 108 #[jp b] w (AU (λr w'=>∃a c xs,r= .slice a (Em xs).length c/\Af w' 110 a c (Em xs)/\(∀q,own a q->w.heap.size<=q)/\xs.Perm (ps.map (·.1))/\As w w')):=by
 refine kD (n:=9) func108 ?_;refine kS (Z4 m2 _) ?_;rintro _ ac ⟨a2,rfl,a3,a4,a0⟩;have ad:=Ak hb.lt a4;have K0:=(a0:As w _);replace hM2:=hM2.ext a0;refine kS (V7 a2 m2 ps _ a3 hM2 Zo hsm) ?_;rintro _ ae ⟨a5,a6,a7,rfl,a8,a1,a9,aa⟩;have ab:=Bg K0.size a1;clear a1;refine kL func108 ?_;replace K0:=K0.ext aa;exact⟨_,rfl,a5,a6,a7,rfl,a8,ab,a9,K0⟩
def V9 (b lg m1 m2 m3:Nat)(st:Int)(ps:List (AE×Value))(w:World)(hb:AC w b [.int .i32 0,.int .u32 0,jp lg,.int .i64 st,.map (some m1),.map (some m2),.map (some m3)] 94)(hM2:Aq w m2 ps)(n3:b≠m2)(hsm:∀p∈ps,N9 p.1)(hl:ps.length<=1000000):
  Calls prog 52 #[jp b] w (AU (λr w'=>AC w' b [.int .i32 0,.int .u32 0,jp lg,.int .i64 st,.map (some m1),.map (some m2),.map (some m3)] 94/\Ae (one b) w w'/\∃a c xs,r= .slice a (Em xs).length c/\Af w' 110 a c (Em xs)/\(∀q,own a q->w.heap.size<=q)/\xs.Perm (ps.map (·.1)))):=by
 refine kD (n:=11) func52 ?_;refine kS (BA _ _ _ _ _ _ _ hb) ?_;rintro _ ae ⟨rfl,a2,a3⟩;have K0:=(Ae.refl (one b) w).tf a3 rfl;replace hb:=a2;clear a2;refine kE (Bp (b:=true) rfl) ?_;refine kH ?_;refine RL.defer (vals:=[jp b]) rfl ?_;refine jG ?_;replace hM2:=hM2.kO a3 (Zx (λe_=>n3 e_));refine kS (V8 _ _ _ _ _ _ ps _ hb hM2 n3 hsm hl) ?_;rintro _ a4 ⟨a8,a9,aa,rfl,a0,a1,ab,a5⟩;have ac:=Ay a1 hb.lt;have ad:=Bg K0.size a1;clear a1;refine jG ?_;replace hb:=hb.ext a5;refine Ai.retU muLib func52 rfl (λ_=>Bw rfl rfl) hb.cellH (hb.thawH 0) ?_;obtain⟨a6,hwU_⟩:∃w_,w_=a4.setCell ⟨b,0,none⟩ (.int .i32 0):=⟨_,rfl⟩;rw[<-hwU_];have hbU_:AC a6 b [.int .i32 0,.int .u32 0,jp lg,.int .i64 st,.map (some m1),.map (some m2),.map (some m3)] 94:=hwU_▸hb.setH;have a7:Ae (one b) a4 a6:=hwU_▸AP _ _ _ _;replace K0:=K0.ext a5;replace K0:=K0.tf a7 rfl;replace hb:=hbU_;replace a0:=a0.kO a7 (Aa ac);exact⟨_,rfl,hb,K0,a8,a9,aa,rfl,a0,ad,ab⟩
section
variable {w w':World}{b d lg m1 m2 m3:Nat}{F F' Z S:Nat->Prop}{st:Int}{pl pl':List PF}{ts ts':List Kc}{ks ks':List Km}{hs hs':List AE}{s:KF}{key:ByteArray}
def Z5 {n:Nat}(h:GQ w b d Z pl s)(hL:A5 w)(hG:FE s)(hf:IU s n)(hn:n<=1000):
  Calls prog 52 #[jp b] w (AU λr w'=>GQ w' b d Z pl s/\Ae Z w w'/\∃a c l,HB s l/\l.length<=n/\r= .slice a (l:List AE).length c/\Af w' 110 a c l/\(∀q,own a q->w.heap.size<=q)):=by
 obtain⟨lg,m1,m2,m3,F,st,ts,ks,hs,rfl,H,T⟩:=h;have e:(hs.map Ju).map (·.1)=hs:=by rw[Aat];exact(AaE λ_ _=>rfl).trans (List.map_id _)
 have hnd:hs.Nodup:=by have:=H.mh.nodup;rwa[e]at this
 obtain⟨l0,h1,h2⟩:=hf.h;have hle:=EC (k:=l0) hnd λx hx=>h2 x ((T.h x).2 hx)
 refine(V9 b lg m1 m2 m3 st _ w H.blk H.mh H.ne.2.2.1 (λp hp=> ?_) (by rw[Aad];omega)).mono λe' w' hh=> ?_
 ·obtain⟨x,hx,rfl⟩:=List.mem_map.1 hp;exact(hG.h x ((T.h x).2 hx)).1
 obtain⟨v,rfl,hb,K,a,c,xs,rfl,h3,h4,h5⟩:=hh;rw[e]at h5;exact⟨_,rfl,⟨lg,m1,m2,m3,F,st,ts,ks,hs,rfl,H.same hL.size K hb,T⟩,K.mono λq _ hq=>one_set9 q hq,a,c,Em xs,QX (h5.nodup_iff.2 hnd) (λx=>h5.mem_iff.trans (T.h x).symm),by rw[Dk.length_eq,h5.length_eq];omega,rfl,h3,h4⟩
end
end Go.Proofs.YtjkaicjmfgekjaaGreatDoor
namespace Go.Proofs.YtjkaicjmfgekjaaGreatDoor
open Go.Proofs.Tryz
attribute [local irreducible] RD RS AB RL RA RT CB Ai AD DP Cx BI By Ca B6 DJ Cf itemsN BZ AQ Bl BL Gr AK A2 At BW Ar A7 Aw A6 EG AL AN Cv setM Au Ap
structure Ct where
 v:MV
 s:Gc
def Ct.c (t:Ct):Bf:=(CY t.v t.s).cart
def cv (v:MV):List Aj×List Ab×List Ah:=(v.ent,v.mrk,v.cl)
structure Mh where
 a:Option Addr
 c:Nat
 l:List Ab
def Mh.h (t:Mh):SH:=⟨t.a,t.l.length,t.c⟩
structure iL where
 keys:SH
 carts:SH
 hints:SH
 marks:SH
instance : Enc iL:=Enc.struct (λt=>[.slice t.keys.a t.keys.len t.keys.cap,.slice t.carts.a t.carts.len t.carts.cap,.slice t.hints.a t.hints.len t.hints.cap,.slice t.marks.a t.marks.len t.marks.cap]) 4 (λ_=>rfl) (λ_ v hv=>by simp at hv;rcases hv with rfl|rfl|rfl|rfl<;>rfl) Zd
structure LM where
 ka:Option Addr
 kc:Nat
 ks:List ByteArray
 ca:Option Addr
 cc:Nat
 cs:List Ct
 ha:Option Addr
 hc:Nat
 hs:List AE
 ma:Option Addr
 mc:Nat
 ms:List Mh
def LM.c (t:LM):iL:=⟨⟨t.ka,t.ks.length,t.kc⟩,⟨t.ca,(t.cs.map Ct.c).length,t.cc⟩,⟨t.ha,t.hs.length,t.hc⟩,⟨t.ma,(t.ms.map Mh.h).length,t.mc⟩⟩
def LM.p (t:LM):(List ByteArray×List AE)×List (List Aj×List Ab×List Ah)×List (List Ab):=((t.ks,t.hs),t.cs.map (λx=>cv x.v),t.ms.map (·.l))
def PE {t u:LM}:t.p=u.p↔(t.ks=u.ks/\t.hs=u.hs)/\t.cs.map (λx=>cv x.v)=u.cs.map (λx=>cv x.v)/\t.ms.map (·.l)=u.ms.map (·.l):=by
 unfold LM.p;simp only[Prod.mk.injEq]
instance (t u:LM):Decidable (t.p=u.p):=decidable_of_iff _ PE.symm
def B2 (ks:List Ct):Nat->Prop:=λq=>∃t∈ks,EH t.s q
def Dl (w:World)(ks:List Ct):Prop:=∀t∈ks,DF w t.s t.v/\IY t.v
def EE (ks:List Mh):Nat->Prop:=λq=>∃t∈ks,own t.a q
def GJ (w:World)(ks:List Mh):Prop:=∀t∈ks,Af w 46 t.a t.c t.l/\t.l.length<=1000
def LN (t:LM):Nat->Prop:=λq=>own t.ka q\/(own t.ca q\/(B2 t.cs q\/(own t.ha q\/(own t.ma q\/EE t.ms q))))
structure IV (w:World)(t:LM):Prop where
 k:Af w 9 t.ka t.kc t.ks
 c:Af w 33 t.ca t.cc (t.cs.map Ct.c)
 cs:Dl w t.cs
 h:Af w 110 t.ha t.hc t.hs
 m:Af w 28 t.ma t.mc (t.ms.map Mh.h)
 ms:GJ w t.ms
 len:t.ks.length<=1000/\t.cs.length<=1000/\t.hs.length<=1000/\t.ms.length<=1000
def Ys (ts:List LM):Nat->Prop:=λq=>∃t∈ts,LN t q
def Gq (w:World)(ts:List LM):Prop:=∀t∈ts,IV w t
section
variable {w w':World}{S:Nat->Prop}{ks:List Ct}{ms:List Mh}{t:LM}{ts:List LM}
def Dl.oL (h:Dl w ks):∀q,B2 ks q->q<w.heap.size:=λq ⟨t,ht,hq⟩=>(h t ht).1.oL q hq
def Dl.kO (h:Dl w ks)(k:Ae S w w')(hn:∀q,B2 ks q->¬S q):Dl w' ks:=λt ht=>⟨(h t ht).1.kO k λq hq=>hn q ⟨t,ht,hq⟩,(h t ht).2⟩
def Dl.ext (h:Dl w ks)(k:As w w'):Dl w' ks:=h.kO k λ_ _=>id
def Dl.nil (w:World):Dl w []:=λ_ h=>nomatch h
def Dl.snoc {x:Ct}(h:Dl w ks)(hx:DF w x.s x.v)(hv:IY x.v):Dl w (ks++[x]):=λt ht=>by
 rcases List.mem_append.1 ht with ht|ht
 ·exact h t ht
 rw[Aah]at ht;subst ht;exact⟨hx,hv⟩
def CL {x:Ct}:∀q,B2 (ks++[x]) q->EH x.s q\/B2 ks q:=λq ⟨t,ht,hq⟩=>by
 rcases List.mem_append.1 ht with ht|ht
 ·exact .inr ⟨t,ht,hq⟩
 rw[Aah]at ht;subst ht;exact .inl hq
def carts_nil :∀q,¬B2 [] q:=λ_ ⟨_,h,_⟩=>nomatch h
def GJ.oL (h:GJ w ms):∀q,EE ms q->q<w.heap.size:=λq ⟨t,ht,hq⟩=>(h t ht).1.oL q hq
def GJ.kO (h:GJ w ms)(k:Ae S w w')(hn:∀q,EE ms q->¬S q):GJ w' ms:=λt ht=>⟨(h t ht).1.kO k λq hq=>hn q ⟨t,ht,hq⟩,(h t ht).2⟩
def GJ.ext (h:GJ w ms)(k:As w w'):GJ w' ms:=h.kO k λ_ _=>id
def GJ.nil (w:World):GJ w []:=λ_ h=>nomatch h
def GJ.snoc {x:Mh}(h:GJ w ms)(hx:Af w 46 x.a x.c x.l)(hv:x.l.length<=1000):GJ w (ms++[x]):=λt ht=>by
 rcases List.mem_append.1 ht with ht|ht
 ·exact h t ht
 rw[Aah]at ht;subst ht;exact⟨hx,hv⟩
def D3 {x:Mh}:∀q,EE (ms++[x]) q->own x.a q\/EE ms q:=λq ⟨t,ht,hq⟩=>by
 rcases List.mem_append.1 ht with ht|ht
 ·exact .inr ⟨t,ht,hq⟩
 rw[Aah]at ht;subst ht;exact .inl hq
def mhs_nil :∀q,¬EE [] q:=λ_ ⟨_,h,_⟩=>nomatch h
def IV.oL (h:IV w t):∀q,LN t q->q<w.heap.size:=by
 rintro q (hq|hq|hq|hq|hq|hq)
 ·exact h.k.oL q hq
 ·exact h.c.oL q hq
 ·exact h.cs.oL q hq
 ·exact h.h.oL q hq
 ·exact h.m.oL q hq
 exact h.ms.oL q hq
def IV.kO (h:IV w t)(k:Ae S w w')(hn:∀q,LN t q->¬S q):IV w' t:=
 ⟨h.k.kO k λq hq=>hn q (.inl hq),h.c.kO k λq hq=>hn q (.inr (.inl hq)),h.cs.kO k λq hq=>hn q (.inr (.inr (.inl hq))),h.h.kO k λq hq=>hn q (.inr (.inr (.inr (.inl hq)))),h.m.kO k λq hq=>hn q (.inr (.inr (.inr (.inr (.inl hq))))),h.ms.kO k λq hq=>hn q (.inr (.inr (.inr (.inr (.inr hq))))),h.len⟩
def IV.ext (h:IV w t)(k:As w w'):IV w' t:=h.kO k λ_ _=>id
def Gq.oL (h:Gq w ts):∀q,Ys ts q->q<w.heap.size:=λq ⟨t,ht,hq⟩=>(h t ht).oL q hq
def Gq.kO (h:Gq w ts)(k:Ae S w w')(hn:∀q,Ys ts q->¬S q):Gq w' ts:=λt ht=>(h t ht).kO k λq hq=>hn q ⟨t,ht,hq⟩
def Gq.ext (h:Gq w ts)(k:As w w'):Gq w' ts:=h.kO k λ_ _=>id
def Gq.one (h:IV w t):Gq w [t]:=λu hu=>by rw[Aah]at hu;subst hu;exact h
def Gq.snoc (h:Gq w ts)(ht:IV w t):Gq w (ts++[t]):=λu hu=>by
 rcases List.mem_append.1 hu with hu|hu
 ·exact h u hu
 rw[Aah]at hu;subst hu;exact ht
end
structure IW (s:KF)(t:LM):Prop where
 k:∃l,LJ s l/\t.ks=AV l
 h:HB s t.hs
 c:t.cs.map (λx=>some (cv x.v))=t.ks.map λk=>(s.c k).map cv
 m:t.ms.map (·.l)=t.ks.map s.m
def LO {α β : Type} {f : α -> β} : ∀ {l k : List α}, l.map (λx => some (f x)) = k.map (λx => some (f x)) -> l.map f = k.map f
  | [], [], _ => rfl
  | [], _ :: _, h => nomatch h
  | _ :: _, [], h => nomatch h
  | a :: l, b :: k, h => by
    rw [Aaf, Aaf, List.cons.injEq] at h;rw [Aaf, Aaf, Option.some.inj h.1, LO h.2]
def IW.eq {s s':KF}{t u:LM}(h:IW s t)(k:IW s' u)(e1:s.c=s'.c)(e2:s.m=s'.m)(e3:s.h=s'.h):t.p=u.p:=by
 obtain⟨l,hl,e4⟩:=h.k;obtain⟨l',hl',e5⟩:=k.k;have hks:t.ks=u.ks:=by
  rw[e4,e5];exact HW ((Acq hl.1 hl'.1).2 λx=>by rw[hl.2,hl'.2,e1])
 have hcs:t.cs.map (λx=>cv x.v)=u.cs.map (λx=>cv x.v):=LO (f:=λx:Ct=>cv x.v) (by rw[h.c,k.c,hks,e1]);have hms:t.ms.map (·.l)=u.ms.map (·.l):=by rw[h.m,k.m,hks,e2]
 unfold LM.p;rw[hks,h.h.eq k.h e3,hcs,hms]
section
variable {α β:Type}{f:α->β}{a b:List α}{i:Nat}{x y:α}
def Si (h:¬a.length=b.length):¬a.map f=b.map f:=λe=>h (by simpa using congrArg List.length e)
def eq0F :(a.map f).take 0=(b.map f).take 0:=rfl
def PG (hx:a[i]? =some x)(hy:b[i]? =some y)(h:¬f x=f y):¬a.map f=b.map f:=λe=>h (by
 have:=congrArg (λl=>l[i]?) e
 simp only[Aaz,hx,hy,AaL,Option.some.injEq]at this;exact this)
def PH (h:(a.map f).take i=(b.map f).take i)(hx:a[i]? =some x)(hy:b[i]? =some y)(e:f x=f y):(a.map f).take (i+1)=(b.map f).take (i+1):=by
 rw[List.take_add_one,List.take_add_one,h,Aaz,Aaz,hx,hy,AaL,AaL,e]
def Sj (h:(a.map f).take i=(b.map f).take i)(h1:a.length<=i)(h2:a.length=b.length):a.map f=b.map f:=by
 rwa[AaB (by simpa using h1),AaB (by simpa using(show b.length<=i by omega))]at h
def IX {g:α->β}{z:β}(h:(a.map g)[i]? =some z):∃p,a[i]? =some p/\p∈a/\z=g p:=by
 rw[Aaz,Aby]at h;obtain⟨p,hp,rfl⟩:=h;exact⟨p,hp,Aan hp,rfl⟩
end
def JU {a b:MV}:G7 a b=true↔cv a=cv b:=by
 unfold G7 ND cv;simp
def iM {a b:MV}(h:G7 a b=true):cv a=cv b:=JU.1 h
def iN {a b:MV}(h:¬G7 a b=true):¬cv a=cv b:=λe=>h (JU.2 e)
def iO {t u:LM}(h:t.p=u.p):(t.cs.map Ct.c).length=(u.cs.map Ct.c).length:=by
 have:=congrArg List.length (PE.1 h).2.1
 simpa using this
attribute [local irreducible] X
def TN (a b:MV)(s t:Gc)(w:World)(hR:Bi w s a)(hQ:Bi w t b)(hv:IY a):
  Calls prog 45 #[.agg #[.slice s.ma a.mrk.length s.mc,.slice s.ca a.cl.length s.cc],.agg #[.slice t.ma b.mrk.length t.mc,.slice t.ca b.cl.length t.cc]] w (AU (λv w'=>v= .bool (ND a b)/\As w w')):=by
 have hv0:=hv;obtain⟨hv1,hv2,hv3,hv4,hv5,hv6⟩:=hv;refine kD (n:=17) func45 ?_;refine kQ ?_;intro a7 a9 a5 a0 a3;have:w.heap.size<=a7:=a5;clear a5;have K0:=(a3:As w _);refine kQ ?_;intro aa ab a4 a6 a2;have ac:=Ak a0.lt a4;have:=Aaa K0.size a4;clear a4;replace a0:=a0.ext a2;refine jG ?_;replace hR:=(hR.ext a3).ext a2;replace hQ:=(hQ.ext a3).ext a2;refine kS (Jm _ _ _ _ _ _ _ hR.mrk hQ.mrk Zo) ?_;rintro _ ad ⟨rfl,a1⟩;replace a0:=a0.ext a1;replace a6:=a6.ext a1;refine jG ?_;replace hR:=hR.ext a1;replace hQ:=hQ.ext a1;refine RL.gcall (vals:=[.slice s.ca a.cl.length s.cc,.slice t.ca b.cl.length t.cc]) (BX rfl rfl rfl rfl) en84.h (λhg=>(C2 (B4 hg) (C2 (B4 hg) HC))) (λhg=>(RI _ _ _ _ _ _ _ hR.cl hQ.cl Zo)) ?_;intro ae a8;refine kE (Bo rfl rfl rfl) ?_;refine jJ func45 ?_;replace K0:=((K0.ext a2).ext a1).ext a8;exact⟨_,rfl,rfl,K0⟩
def QZ (a b:MV)(s t:Gc)(w:World)(hR:Bi w s a)(hQ:Bi w t b)(hv:IY a):
  Calls prog 12 #[.agg #[.slice s.ea a.ent.length s.ec,.slice s.ma a.mrk.length s.mc,.slice s.ca a.cl.length s.cc],.agg #[.slice t.ea b.ent.length t.ec,.slice t.ma b.mrk.length t.mc,.slice t.ca b.cl.length t.cc]] w (AU (λv w'=>v= .bool (G7 a b)/\As w w')):=by
 have hv0:=hv;obtain⟨hv1,hv2,hv3,hv4,hv5,hv6⟩:=hv;refine kD (n:=17) func12 ?_;refine kQ ?_;intro a7 a9 a5 a0 a3;have:w.heap.size<=a7:=a5;clear a5;have K0:=(a3:As w _);refine kQ ?_;intro aa ab a4 a6 a2;have ac:=Ak a0.lt a4;have:=Aaa K0.size a4;clear a4;replace a0:=a0.ext a2;refine jG ?_;replace hR:=(hR.ext a3).ext a2;replace hQ:=(hQ.ext a3).ext a2;refine kS (MF _ _ _ _ _ _ _ hR.ent hQ.ent Zo) ?_;rintro _ ad ⟨rfl,a1⟩;replace a0:=a0.ext a1;replace a6:=a6.ext a1;refine jG ?_;replace hR:=hR.ext a1;replace hQ:=hQ.ext a1;refine RL.gcall (vals:=[.agg #[.slice s.ma a.mrk.length s.mc,.slice s.ca a.cl.length s.cc],.agg #[.slice t.ma b.mrk.length t.mc,.slice t.ca b.cl.length t.cc]]) (BX rfl rfl rfl rfl) en45.h (λhg=>(C2 (B4 hg) (C2 (B4 hg) HC))) (λhg=>(TN a b s t _ hR hQ hv0)) ?_;intro ae a8;refine kE (Bo rfl rfl rfl) ?_;refine jJ func12 ?_;replace K0:=((K0.ext a2).ext a1).ext a8;exact⟨_,rfl,rfl,K0⟩
def Wb (a:Option Addr)(ks:List Ct)(c:Nat)(d:Option Addr)(qs:List Ct)(e:Nat)(w:World)(hs:Ax w a (ks.map Ct.c))(ht:Ax w d (qs.map Ct.c))(hks:∀t∈ks,Bi w t.s t.v/\IY t.v)(hqs:∀t∈qs,Bi w t.s t.v/\IY t.v)(hl:ks.length<=1000):
  Calls prog 65 #[.slice a ((ks.map Ct.c).length) c,.slice d ((qs.map Ct.c).length) e,.func (.func 12) #[] #[]] w (AU (λv w'=>v= .bool (decide (ks.map (λx=>cv x.v)=qs.map (λx=>cv x.v)))/\As w w')):=by
 have hkc:(ks.map Ct.c).length=ks.length:=Aad ..;have hqc:(qs.map Ct.c).length=qs.length:=Aad ..;refine kD (n:=32) func65 ?_;refine jF ?_ ?_
 ·intro hc14;refine kL func65 ?_;exact⟨_,rfl,by rw[decide_eq_false (Si Zo)],(Ae.refl _ w)⟩
 intro hc14;refine jG ?_;refine Ai.loop (ι:=Nat) (λi ρ' w'=>Holds ρ' [(1,.slice d ((qs.map Ct.c).length) e),(2,.func (.func 12) #[] #[]),(15,.slice a ((ks.map Ct.c).length) c),(16,.int .i64 (((ks.map Ct.c).length:Nat):Int)),(17,.int .i64 ((i:Nat):Int))]/\As w w'/\(i<=ks.length)/\((ks.map (λx=>cv x.v)).take i=(qs.map (λx=>cv x.v)).take i)) (λi=>ks.length-i) 0 ?_ ?_
 ·refine⟨⟨rfl,rfl,rfl,rfl,rfl,trivial⟩,(Ae.refl _ w),?_,?_⟩
  ·omega
  exact eq0F
 rintro i ac ad ⟨a5,K0,hi,hno⟩ ih1;obtain⟨ρ₀,rfl⟩:=a5.ex;clear a5;refine kK ?_ ?_
 ·intro hc18;obtain⟨ae,af,x1,hx1,ag,a0⟩:=hs.eo i;have hc_7_lt:=a0.lt;refine ET ?_;obtain⟨m,hmi,hmm,hme⟩:=IX (g:=Ct.c) hx1;replace a0:=a0.ext K0;refine jV (Di (v':= .agg #[.slice m.s.ea m.v.ent.length m.s.ec,.slice m.s.ma m.v.mrk.length m.s.mc,.slice m.s.ca m.v.cl.length m.s.cc]) (B9 (v:= .agg #[.slice x1.entries.a x1.entries.len x1.entries.cap,.slice x1.ctx.marks.a x1.ctx.marks.len x1.ctx.marks.cap,.slice x1.ctx.cloud.a x1.ctx.cloud.len x1.ctx.cloud.cap]) (y:=x1) ty33 rfl a0 rfl) (by rw[hme];rfl)) ?_;refine kR ?_;intro ah ai a4 a1 a9;have aj:=Ak a0.lt a4;have:=Aaa K0.size a4;clear a4;refine jG ?_;refine jR<|jS a1 ?_;intro ak a1 aa;obtain⟨al,am,y1,hy1,an,a2⟩:=ht.eo i;have hc_21_lt:=a2.lt;replace K0:=(K0.ext a9).n1 aa;refine ET ?_;refine FU ?_;obtain⟨u,hui,hum,hue⟩:=IX (g:=Ct.c) hy1;replace a2:=a2.ext K0;refine jV (Di (v':= .agg #[.slice u.s.ea u.v.ent.length u.s.ec,.slice u.s.ma u.v.mrk.length u.s.mc,.slice u.s.ca u.v.cl.length u.s.cc]) (B9 (v:= .agg #[.slice y1.entries.a y1.entries.len y1.entries.cap,.slice y1.ctx.marks.a y1.ctx.marks.len y1.ctx.marks.cap,.slice y1.ctx.cloud.a y1.ctx.cloud.len y1.ctx.cloud.cap]) (y:=y1) ty33 rfl a2 rfl) (by rw[hue];rfl)) ?_;refine kR ?_;intro ao ap a3 a6 a7;have aq:=Ak a1.lt a3;have ar:=Ak a2.lt a3;have:=Aaa K0.size a3;clear a3;refine jR<|jS a6 ?_;intro au a6 a8;replace a1:=(a1.ext a7).kp a8;refine jG ?_;replace K0:=(K0.ext a7).n1 a8;refine jR<|AB.callV (vals:=[.agg #[.slice m.s.ea m.v.ent.length m.s.ec,.slice m.s.ma m.v.mrk.length m.s.mc,.slice m.s.ca m.v.cl.length m.s.cc],.agg #[.slice u.s.ea u.v.ent.length u.s.ec,.slice u.s.ma u.v.mrk.length u.s.mc,.slice u.s.ca u.v.cl.length u.s.cc]]) en12.h rfl rfl (QZ m.v u.v m.s u.s _ ((hks m hmm).1.ext K0) ((hqs u hum).1.ext K0) (hks m hmm).2) ?_;rintro _ av ⟨rfl,ab⟩;refine jG ?_;replace K0:=K0.ext ab;refine jF ?_ ?_
  ·intro hc30;refine kL func65 ?_;exact⟨_,rfl,by rw[decide_eq_false (PG (f:=λx:Ct=>cv x.v) hmi hui (iN (by simpa using hc30)))],K0⟩
  intro hc30;refine jG ?_;refine kC i ?_;refine ih1 (i+1) _ _ ?_ Zo;refine⟨⟨rfl,rfl,rfl,rfl,rfl,trivial⟩,K0,?_,?_⟩
  ·omega
  exact PH hno hmi hui (iM (by simpa using hc30))
 intro hc18;refine kL func65 ?_;exact⟨_,rfl,by rw[decide_eq_true (Sj (f:=λx:Ct=>cv x.v) hno Zo Zo)],K0⟩
def Wc (a:Option Addr)(ks:List Mh)(c:Nat)(d:Option Addr)(qs:List Mh)(e:Nat)(w:World)(hs:Ax w a (ks.map Mh.h))(ht:Ax w d (qs.map Mh.h))(hks:∀t∈ks,Ax w t.a t.l/\t.l.length<=1000)(hqs:∀t∈qs,Ax w t.a t.l/\t.l.length<=1000)(hl:ks.length<=1000):
  Calls prog 66 #[.slice a ((ks.map Mh.h).length) c,.slice d ((qs.map Mh.h).length) e,.func (.func 67) #[] #[]] w (AU (λv w'=>v= .bool (decide (ks.map (·.l)=qs.map (·.l)))/\As w w')):=by
 have hkc:(ks.map Mh.h).length=ks.length:=Aad ..;have hqc:(qs.map Mh.h).length=qs.length:=Aad ..;refine kD (n:=32) func66 ?_;refine jF ?_ ?_
 ·intro hc14;refine kL func66 ?_;exact⟨_,rfl,by rw[decide_eq_false (Si Zo)],(Ae.refl _ w)⟩
 intro hc14;refine jG ?_;refine Ai.loop (ι:=Nat) (λi ρ' w'=>Holds ρ' [(1,.slice d ((qs.map Mh.h).length) e),(2,.func (.func 67) #[] #[]),(15,.slice a ((ks.map Mh.h).length) c),(16,.int .i64 (((ks.map Mh.h).length:Nat):Int)),(17,.int .i64 ((i:Nat):Int))]/\As w w'/\(i<=ks.length)/\((ks.map (·.l)).take i=(qs.map (·.l)).take i)) (λi=>ks.length-i) 0 ?_ ?_
 ·refine⟨⟨rfl,rfl,rfl,rfl,rfl,trivial⟩,(Ae.refl _ w),?_,?_⟩
  ·omega
  exact eq0F
 rintro i a4 a5 ⟨a2,K0,hi,hno⟩ ih1;obtain⟨ρ₀,rfl⟩:=a2.ex;clear a2;refine kK ?_ ?_
 ·intro hc18;obtain⟨a6,a7,x1,hx1,a8,a0⟩:=hs.eo i;have hc_7_lt:=a0.lt;refine ET ?_;obtain⟨m,hmi,hmm,hme⟩:=IX (g:=Mh.h) hx1;replace a0:=a0.ext K0;refine jV (Di (v':= .slice m.a m.l.length m.c) (B9 (v:= .slice x1.a x1.len x1.cap) (y:=x1) ty28 rfl a0 rfl) (by rw[hme];rfl)) ?_;obtain⟨a9,aa,y1,hy1,ab,a1⟩:=ht.eo i;have hc_13_lt:=a1.lt;refine Ii ?_;refine FU ?_;obtain⟨u,hui,hum,hue⟩:=IX (g:=Mh.h) hy1;replace a1:=a1.ext K0;refine jV (Di (v':= .slice u.a u.l.length u.c) (B9 (v:= .slice y1.a y1.len y1.cap) (y:=y1) ty28 rfl a1 rfl) (by rw[hue];rfl)) ?_;have hml9:=(hks m hmm).2;refine jG ?_;refine jR<|AB.callV (vals:=[.slice m.a m.l.length m.c,.slice u.a u.l.length u.c]) en67.h rfl rfl (Jm _ _ _ _ _ _ _ ((hks m hmm).1.ext K0) ((hqs u hum).1.ext K0) Zo) ?_;rintro _ ac ⟨rfl,a3⟩;refine jG ?_;replace K0:=K0.ext a3;refine jF ?_ ?_
  ·intro hc30;refine kL func66 ?_;exact⟨_,rfl,by rw[decide_eq_false (PG (f:=λx:Mh=>x.l) hmi hui (by simpa using hc30))],K0⟩
  intro hc30;refine jG ?_;refine kC i ?_;refine ih1 (i+1) _ _ ?_ Zo;refine⟨⟨rfl,rfl,rfl,rfl,rfl,trivial⟩,K0,?_,?_⟩
  ·omega
  exact PH hno hmi hui (by simpa using hc30)
 intro hc18;refine kL func66 ?_;exact⟨_,rfl,by rw[decide_eq_true (Sj (f:=λx:Mh=>x.l) hno Zo Zo)],K0⟩
def Q0 (a:Option Addr)(xs:List ByteArray)(c:Nat)(d:Option Addr)(ys:List ByteArray)(e:Nat)(w:World)(hs:Ax w a xs)(ht:Ax w d ys)(hl:xs.length<=4294967295):
  Calls prog 63 #[.slice a xs.length c,.slice d ys.length e] w (AU (λv w'=>v= .bool (decide (xs=ys))/\As w w')):=by
 refine kD (n:=26) func63 ?_;refine jF ?_ ?_
 ·intro hc10;refine kL func63 ?_;exact⟨_,rfl,by rw[decide_eq_false (λh=>hc10 (by rw[h]))],(Ae.refl _ w)⟩
 intro hc10;have hlen:xs.length=ys.length:=by omega
 refine jG ?_;refine Ai.loop (ι:=Nat) (λi ρ' w'=>Holds ρ' [(0,.slice a xs.length c),(1,.slice d ys.length e),(12,.int .i64 ((xs.length:Nat):Int)),(13,.int .i64 ((i:Nat):Int))]/\As w w'/\(i<=xs.length)/\(EX xs ys i)) (λi=>xs.length-i) 0 ?_ ?_
 ·refine⟨⟨rfl,rfl,rfl,rfl,trivial⟩,(Ae.refl _ w),?_,?_⟩
  ·omega
  exact EX.zero _ _
 rintro i a4 a5 ⟨a3,K0,hi,hno⟩ ih1;obtain⟨ρ₀,rfl⟩:=a3.ex;clear a3;refine kK ?_ ?_
 ·intro hc14;refine jG ?_;obtain⟨a6,a7,x,hx,a8,a0⟩:=hs.eo i;have hc_9_lt:=a0.lt;obtain⟨a9,aa,y,hy,ab,a1⟩:=ht.eo i;have hc_15_lt:=a1.lt;refine Ai.drawR ?_;intro ac a2;replace a0:=(a0.ext K0).ext a2;replace a1:=(a1.ext K0).ext a2;refine jG ?_;refine jD (Q8 rfl rfl) ?_;refine jG ?_;replace K0:=K0.ext a2;refine jF ?_ ?_
  ·intro hc24;refine kL func63 ?_;exact⟨_,rfl,by rw[decide_eq_false (GX hx hy hc24)],K0⟩
  intro hc24;refine jG ?_;refine kC i ?_;refine ih1 (i+1) _ _ ?_ Zo;refine⟨⟨rfl,rfl,rfl,rfl,trivial⟩,K0,?_,?_⟩
  ·omega
  exact hno.step hx hy hc24
 intro hc14;refine kL func63 ?_;exact⟨_,rfl,by rw[decide_eq_true (hno.all hlen Zo)],K0⟩
def PI (a:Option Addr)(xs:List AE)(c:Nat)(d:Option Addr)(ys:List AE)(e:Nat)(w:World)(hs:Ax w a xs)(ht:Ax w d ys)(hl:xs.length<=4294967295):
  Calls prog 64 #[.slice a xs.length c,.slice d ys.length e] w (AU (λv w'=>v= .bool (decide (xs=ys))/\As w w')):=by
 refine kD (n:=26) func64 ?_;refine jF ?_ ?_
 ·intro hc10;refine kL func64 ?_;exact⟨_,rfl,by rw[decide_eq_false (λh=>hc10 (by rw[h]))],(Ae.refl _ w)⟩
 intro hc10;have hlen:xs.length=ys.length:=by omega
 refine jG ?_;refine Ai.loop (ι:=Nat) (λi ρ' w'=>Holds ρ' [(0,.slice a xs.length c),(1,.slice d ys.length e),(12,.int .i64 ((xs.length:Nat):Int)),(13,.int .i64 ((i:Nat):Int))]/\As w w'/\(i<=xs.length)/\(EX xs ys i)) (λi=>xs.length-i) 0 ?_ ?_
 ·refine⟨⟨rfl,rfl,rfl,rfl,trivial⟩,(Ae.refl _ w),?_,?_⟩
  ·omega
  exact EX.zero _ _
 rintro i a4 a5 ⟨a3,K0,hi,hno⟩ ih1;obtain⟨ρ₀,rfl⟩:=a3.ex;clear a3;refine kK ?_ ?_
 ·intro hc14;refine jG ?_;obtain⟨a6,a7,x,hx,a8,a0⟩:=hs.eo i;have hc_9_lt:=a0.lt;obtain⟨a9,aa,y,hy,ab,a1⟩:=ht.eo i;have hc_15_lt:=a1.lt;refine Ai.drawR ?_;intro ac a2;replace a0:=(a0.ext K0).ext a2;replace a1:=(a1.ext K0).ext a2;refine jG ?_;refine jD (JC Zk rfl rfl (Py x y)) ?_;refine jG ?_;replace K0:=K0.ext a2;refine jF ?_ ?_
  ·intro hc24;refine kL func64 ?_;exact⟨_,rfl,by rw[decide_eq_false (GX hx hy hc24)],K0⟩
  intro hc24;refine jG ?_;refine kC i ?_;refine ih1 (i+1) _ _ ?_ Zo;refine⟨⟨rfl,rfl,rfl,rfl,trivial⟩,K0,?_,?_⟩
  ·omega
  exact hno.step hx hy hc24
 intro hc14;refine kL func64 ?_;exact⟨_,rfl,by rw[decide_eq_true (hno.all hlen Zo)],K0⟩
def N6 (t u:LM)(w:World)(hT:IV w t)(hU:IV w u):
  Calls prog 23 #[.agg #[.slice t.ka t.ks.length t.kc,.slice t.ca ((t.cs.map Ct.c).length) t.cc,.slice t.ha t.hs.length t.hc,.slice t.ma ((t.ms.map Mh.h).length) t.mc],.agg #[.slice u.ka u.ks.length u.kc,.slice u.ca ((u.cs.map Ct.c).length) u.cc,.slice u.ha u.hs.length u.hc,.slice u.ma ((u.ms.map Mh.h).length) u.mc]] w (AU (λv w'=>v= .bool (decide (t.p=u.p))/\As w w')):=by
 obtain⟨hl1,hl2,hl3,hl4⟩:=hT.len;obtain⟨hk1,hk2,hk3,hk4⟩:=hU.len;have hm1:(t.cs.map Ct.c).length=t.cs.length:=Aad ..;have hm2:(u.cs.map Ct.c).length=u.cs.length:=Aad ..;refine kD (n:=40) func23 ?_;refine kQ ?_;intro a8 ab a6 a0 a9;have:w.heap.size<=a8:=a6;clear a6;have K0:=(a9:As w _);refine kQ ?_;intro ac ad a2 a1 a7;have ae:=Ak a0.lt a2;have:=Aaa K0.size a2;clear a2;replace a0:=a0.ext a7;refine jG ?_;replace K0:=K0.ext a7;refine kS (Q0 _ _ _ _ _ _ _ (hT.ext K0).k.sl (hU.ext K0).k.sl Zo) ?_;rintro _ af ⟨rfl,a3⟩;replace a0:=a0.ext a3;replace a1:=a1.ext a3;refine jG ?_;replace K0:=K0.ext a3;refine RL.gcall (vals:=[.slice t.ha t.hs.length t.hc,.slice u.ha u.hs.length u.hc]) (Cc rfl rfl rfl rfl) en64.h (λhg=>(C2 (B4 hg) (C2 (B4 hg) HC))) (λhg=>(PI _ _ _ _ _ _ _ (hT.ext K0).h.sl (hU.ext K0).h.sl Zo)) ?_;intro ag a4;refine jG ?_;refine jV (Er rfl rfl rfl) ?_;replace a0:=a0.ext a4;replace a1:=a1.ext a4;refine jG ?_;refine kE (Er rfl rfl rfl) ?_;replace K0:=K0.ext a4;refine jF ?_ ?_
 ·intro hc27;refine kL func23 ?_;exact⟨_,rfl,congrArg Value.bool (decide_eq_false (λe_:t.p=u.p=>by have h1_:=iO e_;have h2_:=(PE.1 e_).1;rcases hc27 with(h_|h_)|h_;exact h_ h2_.1;exact h_ h2_.2;exact h_ (by rw[h1_]))).symm,K0⟩
 intro hc27;refine jG ?_;refine kS (Wb _ t.cs _ _ u.cs _ _ (hT.ext K0).c.sl (hU.ext K0).c.sl (λx hx=>⟨((hT.ext K0).cs x hx).1.r,((hT.ext K0).cs x hx).2⟩) (λx hx=>⟨((hU.ext K0).cs x hx).1.r,((hU.ext K0).cs x hx).2⟩) hT.len.2.1) ?_;rintro _ ah ⟨rfl,a5⟩;replace a0:=a0.ext a5;replace a1:=a1.ext a5;refine jG ?_;replace K0:=K0.ext a5;refine RL.gcall (vals:=[.slice t.ma ((t.ms.map Mh.h).length) t.mc,.slice u.ma ((u.ms.map Mh.h).length) u.mc,.func (.func 67) #[] #[]]) (BX rfl rfl rfl rfl) en66.h (λhg=>(C2 (B4 hg) (C2 (B4 hg) (C2 rfl HC)))) (λhg=>(Wc _ t.ms _ _ u.ms _ _ (hT.ext K0).m.sl (hU.ext K0).m.sl (λx hx=>⟨((hT.ext K0).ms x hx).1.sl,((hT.ext K0).ms x hx).2⟩) (λx hx=>⟨((hU.ext K0).ms x hx).1.sl,((hU.ext K0).ms x hx).2⟩) hT.len.2.2.2)) ?_;intro ai aa;refine kE (Bo rfl rfl rfl) ?_;refine jJ func23 ?_;replace K0:=K0.ext aa;exact⟨_,rfl,congrArg Value.bool (by have h3_:t.ks=u.ks/\t.hs=u.hs:=(by simp at hc27;exact hc27.1);rw[AaD,decide_eq_true_eq,PE];simp[h3_.1,h3_.2]),K0⟩
end Go.Proofs.YtjkaicjmfgekjaaGreatDoor
namespace Go.Proofs.YtjkaicjmfgekjaaGreatDoor
open Go.Proofs.Tryz
attribute [local irreducible] RD RS AB RL RA RT CB Ai AD DP Cx BI By Ca B6 DJ Cf itemsN BZ AQ Bl BL Gr AK A2 At BW Ar A7 Aw A6 EG AL AN Cv setM Au Ap
def PJ {α β γ:Type}{F:α->γ}{G:β->γ}{cs:List α}{xs:List β}{i:Nat}{x:α}{k:β}(h:xs[i]? =some k)(e:cs.map F=(xs.take i).map G)(hx:F x=G k):(cs++[x]).map F=(xs.take (i+1)).map G:=by
 rw[Aam,e,Cg h,Aam,Aaf,Aaf,hx];rfl
def Kr {α β γ:Type}{F:α->γ}{G:β->γ}{cs:List α}{xs:List β}{i:Nat}(e:cs.map F=(xs.take i).map G)(h:i<=xs.length):cs.length=i:=by
 have:=congrArg List.length e
 rw[Aad,Aad,List.length_take]at this;omega
def PK {α β γ:Type}{F:α->γ}{G:β->γ}{cs:List α}{xs:List β}{i:Nat}(e:cs.map F=(xs.take i).map G)(h:xs.length<=i):cs.map F=xs.map G:=by
 rw[e,AaB h]
def PL {s:KF}{l:List ByteArray}{n:Nat}(h:LJ s l)(hf:IU s n):(AV l).length<=n:=by
 obtain⟨l0,h1,h2⟩:=hf.c;have:=EC (k:=l0) h.1 λx hx=>h2 x ((h.2 x).1 hx)
 rw[BN.length_eq];omega
def Wd {s:KF}{l:List ByteArray}{i:Nat}{key:ByteArray}(h:LJ s l)(hk:(AV l)[i]? =some key):s.c key≠none:=(h.2 key).1 (BN.mem_iff.1 (Aan hk))
attribute [local irreducible] X
def LP (b d:Nat)(Z:Nat->Prop)(pl:List PF)(sk:KF)(n:Nat)(w:World)(hS:GQ w b d Z pl sk)(hL:A5 w)(hZG:∀q,Z q->7<=q)(hG:FE sk)(hf:IU sk n)(hn:n<=1000):
  Calls prog 16 #[jp b] w (AU (λr w'=>∃t:LM,r= .agg #[.slice t.ka t.ks.length t.kc,.slice t.ca (t.cs.map Ct.c).length t.cc,.slice t.ha t.hs.length t.hc,.slice t.ma (t.ms.map Mh.h).length t.mc]/\GQ w' b d Z pl sk/\Ae Z w w'/\IV w' t/\(∀q,LN t q->w.heap.size<=q)/\IW sk t)):=by
 have hLs:=hL.size;refine kD (n:=42) func16 ?_;refine kR ?_;intro a9 d1 aH a1 aI;have aA:=An hS.oL aH;have:w.heap.size<=a9:=aH;clear aH;have K0:=(aI:As w _).to (S:=Z);refine jG ?_;replace hS:=hS.ext aI;replace hL:=hL.ext aI;refine kS (iJ hS hL hG hf hn) ?_;rintro _ d2 ⟨aZ,aJ,l9,ka9,kc9,hKO,rfl,a2,aC⟩;have aK:=Ag aC hS.oL;have bz:=Ay aC a1.lt;have bA:=Bg K0.size aC;clear aC;replace K0:=K0.trans aJ (λx hlt hx=>(λq_ h_ _=>h_) x hx hlt);replace hS:=aZ;clear aZ;refine jG ?_;replace hL:=hL.keep aJ hZG;refine kS (Z5 hS hL hG hf hn) ?_;rintro _ d3 ⟨b0,aD,ha9,hc9,hl9,hHO,hHn,rfl,a3,aE⟩;have b1:=Ag aE hS.oL;replace a1:=a1.keep aJ aA;have bB:=Ay aE a1.lt;have bC:=Bg K0.size aE;clear aE;replace K0:=K0.trans aD (λx hlt hx=>(λq_ h_ _=>h_) x hx hlt);replace hS:=b0;clear b0;refine jV (AO (cells:=#[.slice ka9 ((AV l9).length) kc9,.slice none 0 0,.slice ha9 hl9.length hc9,.slice none 0 0]) Zk) ?_;refine kR ?_;intro ac d4 av a0 aw;replace a1:=a1.keep aD aA;have d5:=Ak a1.lt av;have aB:=An hS.oL av;replace a2:=a2.kO aD aK;have aL:=An a2.oL av;have aM:=An a3.oL av;have:=Aaa K0.size av;clear av;refine jR<|jS a0 ?_;intro ax a0 ay;replace K0:=K0.ext aw;replace K0:=K0.n1 ay;have hkl9:=PL hKO hf;have hC:Dl ax ([]:List Ct):=Dl.nil ax;have hMs:GJ ax ([]:List Mh):=GJ.nil ax;refine jG ?_;replace hL:=((hL.keep aD hZG).ext aw).keep ay Zw;replace hS:=(hS.ext aw).kO ay (Aa aB);replace a1:=(a1.ext aw).kp ay;replace a2:=(a2.ext aw).kO ay (Aa aL);replace a3:=(a3.ext aw).kO ay (Aa aM);refine Ai.loop (ι:=Nat) (λi ρ' w'=>∃cs:List Ct,∃ms:List Mh,∃ca:Option Addr,∃cc:Nat,∃ma:Option Addr,∃mc:Nat,Holds ρ' [(0,jp b),(2,jp a9),(3,jp ac),(14,.slice ka9 ((AV l9).length) kc9),(15,.int .i64 (((AV l9).length:Nat):Int)),(16,.int .i64 ((i:Nat):Int))]/\Ae Z w w'/\(A5 w')/\(AC w' a9 [.slice none 0 0,.slice none 0 0,.slice none 0 0,.slice none 0 0] 55)/\(AC w' ac [.slice ka9 ((AV l9).length) kc9,.slice ca ((cs.map Ct.c).length) cc,.slice ha9 hl9.length hc9,.slice ma ((ms.map Mh.h).length) mc] 55)/\(GQ w' b d Z pl sk)/\(Af w' 9 ka9 kc9 (AV l9))/\(Af w' 110 ha9 hc9 hl9)/\(Dl w' cs)/\(GJ w' ms)/\(Af w' 33 ca cc (cs.map Ct.c))/\(Af w' 28 ma mc (ms.map Mh.h))/\(¬B2 cs a9)/\(¬B2 cs ac)/\(∀q_,B2 cs q_->¬Z q_)/\(∀q_,B2 cs q_->¬own ka9 q_)/\(∀q_,B2 cs q_->¬own ha9 q_)/\(∀q_,B2 cs q_->¬EE ms q_)/\(∀q_,B2 cs q_->¬own ca q_)/\(∀q_,B2 cs q_->¬own ma q_)/\(∀q_,B2 cs q_->q_<w.heap.size->Z q_)/\(¬EE ms a9)/\(¬EE ms ac)/\(∀q_,EE ms q_->¬Z q_)/\(∀q_,EE ms q_->¬own ka9 q_)/\(∀q_,EE ms q_->¬own ha9 q_)/\(∀q_,EE ms q_->¬own ca q_)/\(∀q_,EE ms q_->¬own ma q_)/\(∀q_,EE ms q_->q_<w.heap.size->Z q_)/\(¬own ca a9)/\(¬own ca ac)/\(∀q_,own ca q_->¬Z q_)/\(∀q_,own ca q_->¬own ka9 q_)/\(∀q_,own ca q_->¬own ha9 q_)/\(∀q_,own ca q_->¬own ma q_)/\(∀q_,own ca q_->q_<w.heap.size->Z q_)/\(¬own ma a9)/\(¬own ma ac)/\(∀q_,own ma q_->¬Z q_)/\(∀q_,own ma q_->¬own ka9 q_)/\(∀q_,own ma q_->¬own ha9 q_)/\(∀q_,own ma q_->q_<w.heap.size->Z q_)/\(∀q_,B2 cs q_->w.heap.size<=q_)/\(∀q_,EE ms q_->w.heap.size<=q_)/\(∀q_,own ca q_->w.heap.size<=q_)/\(∀q_,own ma q_->w.heap.size<=q_)/\(i<=(AV l9).length)/\(cs.map (λx=>some (cv x.v))=((AV l9).take i).map λk=>(sk.c k).map cv)/\(ms.map (·.l)=((AV l9).take i).map sk.m)) (λi=>(AV l9).length-i) 0 ?_ ?_
 ·have bD:=Af.nil (α:=Bf) ax 33;have bE:=Af.nil (α:=SH) ax 28;refine⟨([]:List Ct),([]:List Mh),_,_,_,_,⟨rfl,rfl,rfl,rfl,rfl,rfl,trivial⟩,K0,hL,a1,a0,hS,a2,a3,hC,hMs,bD,bE,(λh_=>carts_nil _ h_),(λh_=>carts_nil _ h_),(λq_ h_ _=>carts_nil q_ h_),(λq_ h_ _=>carts_nil q_ h_),(λq_ h_ _=>carts_nil q_ h_),(λq_ h1 h2=>(λq_ h_ _=>mhs_nil q_ h_) q_ h2 h1),(λq_ h1 h2=>(λq_ h1 _=>Ad q_ h1) q_ h2 h1),(λq_ h1 h2=>(λq_ h1 _=>Ad q_ h1) q_ h2 h1),(λq_ h_ _=>(carts_nil q_ h_).elim),(λh_=>mhs_nil _ h_),(λh_=>mhs_nil _ h_),(λq_ h_ _=>mhs_nil q_ h_),(λq_ h_ _=>mhs_nil q_ h_),(λq_ h_ _=>mhs_nil q_ h_),(λq_ h1 h2=>(λq_ h1 _=>Ad q_ h1) q_ h2 h1),(λq_ h1 h2=>(λq_ h1 _=>Ad q_ h1) q_ h2 h1),(λq_ h_ _=>(mhs_nil q_ h_).elim),(Ad a9),(Ad ac),(λq_ h1 _=>Ad q_ h1),(λq_ h1 _=>Ad q_ h1),(λq_ h1 _=>Ad q_ h1),(λq_ h1 h2=>(λq_ h1 _=>Ad q_ h1) q_ h2 h1),(λq_ h1 _=>absurd h1 (Ad q_)),(Ad a9),(Ad ac),(λq_ h1 _=>Ad q_ h1),(λq_ h1 _=>Ad q_ h1),(λq_ h1 _=>Ad q_ h1),(λq_ h1 _=>absurd h1 (Ad q_)),(λq_ h_=>(carts_nil q_ h_).elim),(λq_ h_=>(mhs_nil q_ h_).elim),(λq_ h1=>absurd h1 (Ad q_)),(λq_ h1=>absurd h1 (Ad q_)),?_,?_,?_⟩
  ·omega
  ·rfl
  rfl
 clear hS a1 a2 a3 a0 hC hMs;clear K0;rintro i d6 d7 ⟨cs,ms,ca,cc,ma,mc,b2,K0,hL,a1,a0,hS,a2,a3,a4,a5,ap,a6,b3,aN,aO,bF,bG,bH,b4,b5,bI,b6,aP,aQ,bJ,bK,b7,b8,bL,aR,b9,aS,ba,bb,bc,be,aT,aU,aF,bg,bh,bi,bj,bk,aV,aW,hi,hcl,hml⟩ ih1;obtain⟨ρ₀,rfl⟩:=b2.ex;clear b2;refine kK ?_ ?_
 ·intro hc17;have hcs9:=Kr hcl hi;have hms9:=Kr hml hi;have hcl9:(cs.map Ct.c).length=cs.length:=Aad ..;have hml9:(ms.map Mh.h).length=ms.length:=Aad ..;obtain⟨d8,d9,key,hk,da,db⟩:=a2.sl.eo i;refine jG ?_;refine kS (jk (key:=key) hS hL) ?_;rintro _ dc ⟨bl,aq,bM⟩;rcases bM with⟨hg0,rfl⟩|⟨v9,hgv,s9,rfl,hO9,hA9,hg9,hvo9⟩
  ·exact absurd hg0 (Wd hKO hk)
  have bN:=Ay hg9 a1.lt;have aX:=Ay hg9 a0.lt;have bm:=Ag hg9 hS.oL;have bO:=Ag hg9 a2.oL;have bP:=Ag hg9 a3.oL;have bQ:=Ag hg9 a5.oL;have bn:=Ag hg9 ap.oL;have bo:=Ag hg9 a6.oL;have bR:∀q_,EH s9 q_->q_<w.heap.size->Z q_:=GY K0.size hg9;have bS:=Bg K0.size hg9;replace K0:=K0.trans aq (λx hlt hx=>(λq_ h_ _=>h_) x hx hlt);replace hS:=bl;clear bl;refine kP ?_;intro dd de ad bp ae;replace a1:=a1.keep aq aA;have df:=Ak a1.lt ad;replace a0:=a0.keep aq aB;have dg:=Ak a0.lt ad;have bT:=An hS.oL ad;replace a2:=a2.kO aq aK;have bU:=An a2.oL ad;replace a3:=a3.kO aq b1;have bV:=An a3.oL ad;replace a4:=a4.kO aq aO;have bW:=An a4.oL ad;replace a5:=a5.kO aq aQ;have bX:=An a5.oL ad;replace ap:=ap.kO aq aS;have bY:=An ap.oL ad;replace a6:=a6.kO aq aF;have bZ:=An a6.oL ad;have c0:=An hO9.oL ad;have:=Aaa K0.size ad;clear ad;refine jR<|jS bp ?_;intro dh bp af;replace K0:=K0.ext ae;replace K0:=K0.n1 af;replace a0:=(a0.ext ae).kp af;refine jG ?_;refine jR<|AB.buildSlice ([(⟨⟨s9.ea,v9.ent.length,s9.ec⟩,(⟨⟨s9.ma,v9.mrk.length,s9.mc⟩,⟨s9.ca,v9.cl.length,s9.cc⟩⟩:Qq)⟩:Bf)]:List Bf) underlying22 ty33 rfl rfl Ze ?_;intro di dj c1 c2 ag;clear c1;replace ap:=((ap.ext ae).kO af (Aa bY)).ext ag;refine jR<|AB.append (xs:=cs.map Ct.c) (ys:=([(⟨⟨s9.ea,v9.ent.length,s9.ec⟩,(⟨⟨s9.ma,v9.mrk.length,s9.mc⟩,⟨s9.ca,v9.cl.length,s9.cc⟩⟩:Qq)⟩:Bf)]:List Bf)) underlying22 ty33 rfl rfl rfl ap c2.sl Zr Zd ?_;intro a7 dk dl ar am ah c3;replace a1:=((a1.ext ae).kp af).ext ag;have c4:¬own a7 a9:=ah.not aR a1.lt;replace a0:=a0.ext ag;have aY:¬own a7 ac:=ah.not b9 a0.lt;replace hS:=((hS.ext ae).kO af (Aa bT)).ext ag;have bq:∀q_,own a7 q_->¬Z q_:=ah.apart aS hS.oL;replace a2:=((a2.ext ae).kO af (Aa bU)).ext ag;have c5:∀q_,own a7 q_->¬own ka9 q_:=ah.apart ba a2.oL;replace a3:=((a3.ext ae).kO af (Aa bV)).ext ag;have c6:∀q_,own a7 q_->¬own ha9 q_:=ah.apart bb a3.oL;replace a4:=((a4.ext ae).kO af (Aa bW)).ext ag;have c7:∀q_,own a7 q_->¬B2 cs q_:=ah.apart (Zf b4) a4.oL;replace a5:=((a5.ext ae).kO af (Aa bX)).ext ag;have c8:∀q_,own a7 q_->¬EE ms q_:=ah.apart (Zf b7) a5.oL;replace a6:=((a6.ext ae).kO af (Aa bZ)).ext ag;have bs:∀q_,own a7 q_->¬own ma q_:=ah.apart bc a6.oL;replace hO9:=((hO9.ext ae).kO af (Aa c0)).ext ag;have c9:∀q_,own a7 q_->¬EH s9 q_:=ah.apart (Zf bn) hO9.oL;replace K0:=K0.ext ag;have cb:∀q_,own a7 q_->q_<w.heap.size->Z q_:=ah.inS be K0.size;have cd:∀q_,own a7 q_->w.heap.size<=q_:=ah.ge aV K0.size;replace K0:=K0.trans am (λx hlt hx=>be x hx hlt);clear ah;clear c3;refine jG ?_;replace a0:=a0.keep am b9;refine jR<|jS a0 ?_;intro dm a0 an;replace K0:=K0.n1 an;refine jG ?_;refine Ai.drawS [8] [0,1001,2,3,2004,2005,2006,7,2008] ?_;intro dn ai;replace a0:=a0.ext ai;refine kF (jb a0 Jn) ?_;replace hL:=((((((hL.keep aq hZG).ext ae).keep af Zw).ext ag).keep am (λq_ hq_=>Aaa hLs (aV q_ hq_))).keep an Zw).ext ai;replace hS:=((hS.kO am (Zf aS)).kO an (Aa aB)).ext ai;refine jU rfl<|jC (iI (key:=key) hS hL) ?_;rintro _ dp ⟨bt,ao,ra9,rc9,rfl,az,aj⟩;replace a1:=((a1.keep am aR).kp an).ext ai;have ce:=Ay aj a1.lt;have bu:=Ay aj a0.lt;have cf:=Ag aj hS.oL;replace a2:=((a2.kO am (Zf ba)).kO an (Aa aL)).ext ai;have cg:=Ag aj a2.oL;replace a3:=((a3.kO am (Zf bb)).kO an (Aa aM)).ext ai
  have ch:=Ag aj a3.oL;replace a4:=((a4.kO am b4).kO an (Aa aN)).ext ai;have ci:=Ag aj a4.oL;replace a6:=((a6.kO am (Zf bc)).kO an (Aa aU)).ext ai;have bv:=Ag aj a6.oL;replace hO9:=((hO9.kO am bn).kO an (Aa aX)).ext ai;have cj:=Ag aj hO9.oL;replace ar:=(ar.kO an (Aa aY)).ext ai;have ck:=Ag aj ar.oL;replace K0:=K0.ext ai;have cm:∀q_,own ra9 q_->q_<w.heap.size->Z q_:=GY K0.size aj;have cn:=Bg K0.size aj;clear aj;replace K0:=K0.trans ao (λx hlt hx=>(λq_ h_ _=>h_) x hx hlt);replace hS:=bt;clear bt;replace a0:=a0.keep ao aB;refine jG ?_;refine jU rfl<|AB.buildSlice ([⟨ra9,(sk.m key).length,rc9⟩]:List SH) underlying53 ty28 rfl rfl Ze ?_;intro dq dr co cp aa;clear co;replace a0:=a0.ext aa;refine jG ?_;replace a6:=(a6.kO ao aF).ext aa;refine jU rfl<|AB.append (xs:=ms.map Mh.h) (ys:=([⟨ra9,(sk.m key).length,rc9⟩]:List SH)) underlying53 ty28 rfl rfl rfl a6 cp.sl Zr Zd ?_;intro a8 ds dt aG ak ab cq;replace a1:=(a1.keep ao aA).ext aa;have cr:¬own a8 a9:=ab.not aT a1.lt;have bw:¬own a8 ac:=ab.not aU a0.lt;replace hS:=hS.ext aa;have ct:∀q_,own a8 q_->¬Z q_:=ab.apart aF hS.oL;replace a2:=(a2.kO ao aK).ext aa;have cu:∀q_,own a8 q_->¬own ka9 q_:=ab.apart bg a2.oL;replace a3:=(a3.kO ao b1).ext aa;have cw:∀q_,own a8 q_->¬own ha9 q_:=ab.apart bh a3.oL;replace a4:=(a4.kO ao aO).ext aa;have cx:∀q_,own a8 q_->¬B2 cs q_:=ab.apart (Zf b5) a4.oL;replace a5:=((((a5.kO am b7).kO an (Aa aP)).ext ai).kO ao aQ).ext aa;have cy:∀q_,own a8 q_->¬EE ms q_:=ab.apart (Zf b8) a5.oL;replace hO9:=(hO9.kO ao bm).ext aa;have cz:∀q_,own a8 q_->¬EH s9 q_:=ab.apart (Zf bo) hO9.oL;replace ar:=(ar.kO ao bq).ext aa;have cA:∀q_,own a8 q_->¬own a7 q_:=ab.apart (Zf bs) ar.oL;replace az:=az.ext aa;have cB:∀q_,own a8 q_->¬own ra9 q_:=ab.apart (Zf bv) az.oL;replace K0:=K0.ext aa;have cC:∀q_,own a8 q_->q_<w.heap.size->Z q_:=ab.inS bi K0.size;have cD:∀q_,own a8 q_->w.heap.size<=q_:=ab.ge aW K0.size;replace K0:=K0.trans ak (λx hlt hx=>bi x hx hlt);clear ab;clear cq;replace a0:=a0.keep ak aU;refine jG ?_;refine jU rfl<|jS a0 ?_;intro bx a0 al;replace K0:=K0.n1 al;refine jG ?_;refine kC i ?_;have cE:(cs.map Ct.c)++([(⟨⟨s9.ea,v9.ent.length,s9.ec⟩,(⟨⟨s9.ma,v9.mrk.length,s9.mc⟩,⟨s9.ca,v9.cl.length,s9.cc⟩⟩:Qq)⟩:Bf)]:List Bf)=(cs++[(⟨v9,s9⟩:Ct)]).map Ct.c:=by rw[Aam];rfl
  replace ar:=(ar.kO ak bs).kO al (Aa aY);rw[cE]at ar a0;have cF:(ms.map Mh.h)++([⟨ra9,(sk.m key).length,rc9⟩]:List SH)=(ms++[(⟨ra9,rc9,sk.m key⟩:Mh)]).map Mh.h:=by rw[Aam];rfl
  replace aG:=aG.kO al (Aa bw);rw[cF]at aG a0;replace a4:=(a4.kO ak b5).kO al (Aa aN);replace hO9:=(hO9.kO ak bo).kO al (Aa aX);have hC':Dl bx (cs++[⟨v9,s9⟩]):=Dl.snoc (x:=⟨v9,s9⟩) a4 hO9 hvo9;have cG:¬B2 (cs++[⟨v9,s9⟩]) a9:=λx_=>(CL _ x_).elim bN (λy_=>b3 y_);have cH:¬B2 (cs++[⟨v9,s9⟩]) ac:=λx_=>(CL _ x_).elim aX (λy_=>aN y_);have cI:∀q_,B2 (cs++[⟨v9,s9⟩]) q_->¬Z q_:=λq_ x_ z_=>(CL _ x_).elim (λy_=>bm q_ y_ z_) (λy_=>(λy_=>aO q_ y_ z_) y_);have cJ:∀q_,B2 (cs++[⟨v9,s9⟩]) q_->¬own ka9 q_:=λq_ x_ z_=>(CL _ x_).elim (λy_=>bO q_ y_ z_) (λy_=>(λy_=>bF q_ y_ z_) y_);have cK:∀q_,B2 (cs++[⟨v9,s9⟩]) q_->¬own ha9 q_:=λq_ x_ z_=>(CL _ x_).elim (λy_=>bP q_ y_ z_) (λy_=>(λy_=>bG q_ y_ z_) y_);have cL:∀q_,B2 (cs++[⟨v9,s9⟩]) q_->¬EE ms q_:=λq_ x_ z_=>(CL _ x_).elim (λy_=>bQ q_ y_ z_) (λy_=>(λy_=>bH q_ y_ z_) y_);have cM:∀q_,B2 (cs++[⟨v9,s9⟩]) q_->¬own a7 q_:=λq_ x_ z_=>(CL _ x_).elim (λy_=>(Zf c9) q_ y_ z_) (λy_=>(λy_=>(Zf c7) q_ y_ z_) y_);have cN:∀q_,B2 (cs++[⟨v9,s9⟩]) q_->¬own ra9 q_:=λq_ x_ z_=>(CL _ x_).elim (λy_=>(Zf cj) q_ y_ z_) (λy_=>(λy_=>(Zf ci) q_ y_ z_) y_);have cO:∀q_,B2 (cs++[⟨v9,s9⟩]) q_->¬own a8 q_:=λq_ x_ z_=>(CL _ x_).elim (λy_=>(Zf cz) q_ y_ z_) (λy_=>(λy_=>(Zf cx) q_ y_ z_) y_);have cP:∀q_,B2 (cs++[⟨v9,s9⟩]) q_->q_<w.heap.size->Z q_:=λq_ x_ hl_=>(CL _ x_).elim (λy_=>bR q_ y_ hl_) (λy_=>(λy_=>bI q_ y_ hl_) y_);have cQ:∀q_,B2 (cs++[⟨v9,s9⟩]) q_->w.heap.size<=q_:=λq_ x_=>(CL _ x_).elim (λy_=>bS q_ y_) (λy_=>(λy_=>bj q_ y_) y_);replace a5:=(a5.kO ak b8).kO al (Aa aP);replace az:=(az.kO ak bv).kO al (Aa bu);have hM':GJ bx (ms++[⟨ra9,rc9,sk.m key⟩]):=GJ.snoc (x:=⟨ra9,rc9,sk.m key⟩) a5 az (Aaa (hf.m key) hn);have cR:¬EE (ms++[⟨ra9,rc9,sk.m key⟩]) a9:=λx_=>(D3 _ x_).elim ce (λy_=>b6 y_);have cS:¬EE (ms++[⟨ra9,rc9,sk.m key⟩]) ac:=λx_=>(D3 _ x_).elim bu (λy_=>aP y_);have cT:∀q_,EE (ms++[⟨ra9,rc9,sk.m key⟩]) q_->¬Z q_:=λq_ x_ z_=>(D3 _ x_).elim (λy_=>cf q_ y_ z_) (λy_=>(λy_=>aQ q_ y_ z_) y_);have cU:∀q_,EE (ms++[⟨ra9,rc9,sk.m key⟩]) q_->¬own ka9 q_:=λq_ x_ z_=>(D3 _ x_).elim (λy_=>cg q_ y_ z_) (λy_=>(λy_=>bJ q_ y_ z_) y_);have cV:∀q_,EE (ms++[⟨ra9,rc9,sk.m key⟩]) q_->¬own ha9 q_:=λq_ x_ z_=>(D3 _ x_).elim (λy_=>ch q_ y_ z_) (λy_=>(λy_=>bK q_ y_ z_) y_);have cW:∀q_,EE (ms++[⟨ra9,rc9,sk.m key⟩]) q_->¬own a7 q_:=λq_ x_ z_=>(D3 _ x_).elim (λy_=>ck q_ y_ z_) (λy_=>(λy_=>(Zf c8) q_ y_ z_) y_);have cX:∀q_,EE (ms++[⟨ra9,rc9,sk.m key⟩]) q_->¬own a8 q_:=λq_ x_ z_=>(D3 _ x_).elim (λy_=>(Zf cB) q_ y_ z_) (λy_=>(λy_=>(Zf cy) q_ y_ z_) y_);have cY:∀q_,EE (ms++[⟨ra9,rc9,sk.m key⟩]) q_->¬B2 (cs++[⟨v9,s9⟩]) q_:=λq_ x_ z_=>(D3 _ x_).elim (λy_=>(Zf cN) q_ y_ z_) (λy_=>(λy_=>(Zf cL) q_ y_ z_) y_);have cZ:∀q_,EE (ms++[⟨ra9,rc9,sk.m key⟩]) q_->q_<w.heap.size->Z q_:=λq_ x_ hl_=>(D3 _ x_).elim (λy_=>cm q_ y_ hl_) (λy_=>(λy_=>bL q_ y_ hl_) y_);have d0:∀q_,EE (ms++[⟨ra9,rc9,sk.m key⟩]) q_->w.heap.size<=q_:=λq_ x_=>(D3 _ x_).elim (λy_=>cn q_ y_) (λy_=>(λy_=>bk q_ y_) y_)
  refine ih1 (i+1) _ _ ?_ Zo;replace hL:=(((hL.keep ao hZG).ext aa).keep ak (λq_ hq_=>Aaa hLs (aW q_ hq_))).keep al Zw;replace a1:=(a1.keep ak aT).kp al;replace hS:=(hS.kO ak (Zf aF)).kO al (Aa aB);replace a2:=(a2.kO ak (Zf bg)).kO al (Aa aL);replace a3:=(a3.kO ak (Zf bh)).kO al (Aa aM);refine⟨(cs++[⟨v9,s9⟩]),(ms++[⟨ra9,rc9,sk.m key⟩]),_,_,_,_,⟨rfl,rfl,rfl,rfl,rfl,rfl,trivial⟩,K0,hL,a1,a0,hS,a2,a3,hC',hM',ar,aG,cG,cH,cI,cJ,cK,(Zf cY),cM,cO,cP,cR,cS,cT,cU,cV,cW,cX,cZ,c4,aY,bq,c5,c6,(Zf cA),cb,cr,bw,ct,cu,cw,cC,cQ,d0,cd,cD,?_,?_,?_⟩
  ·omega
  ·exact PJ hk hcl (by rw[hgv];rfl)
  exact PJ hk hml rfl
 intro hc17;refine jG ?_;refine jR<|jS a1 ?_;intro du a1 au;replace K0:=K0.n1 au;refine jG ?_;refine Ai.retC (cs:=#[.slice ka9 ((AV l9).length) kc9,.slice ca ((cs.map Ct.c).length) cc,.slice ha9 hl9.length hc9,.slice ma ((ms.map Mh.h).length) mc]) func16 rfl ty55 rfl rfl a1.cl ?_;have hkl_:=PL hKO hf;have h1_:=Kr hcl hi;have h2_:=Kr hml hi;have h3_:=PK hcl (show(AV l9).length<=i by omega);have h4_:=PK hml (show(AV l9).length<=i by omega);replace hS:=hS.kO au (Aa aA);replace a2:=a2.kO au (Aa bz);replace a3:=a3.kO au (Aa bB);replace a4:=a4.kO au (Aa b3);replace a5:=a5.kO au (Aa b6);replace ap:=ap.kO au (Aa aR);replace a6:=a6.kO au (Aa aT);exact⟨_,rfl,⟨ka9,kc9,AV l9,ca,cc,cs,ha9,hc9,hl9,ma,mc,ms⟩,rfl,hS,K0,⟨a2,ap,a4,a3,a6,a5,⟨(show(AV l9).length<=1000 by omega),(show cs.length<=1000 by omega),(show hl9.length<=1000 by omega),(show ms.length<=1000 by omega)⟩⟩,λq_ h_=>h_.elim (bA q_) (λh_=>h_.elim (aV q_) (λh_=>h_.elim (bj q_) (λh_=>h_.elim (bC q_) (λh_=>h_.elim (aW q_) (bk q_))))),⟨⟨l9,hKO,rfl⟩,hHO,h3_,h4_⟩⟩
end Go.Proofs.YtjkaicjmfgekjaaGreatDoor
namespace Go.Proofs.YtjkaicjmfgekjaaGreatDoor
open Go.Proofs.Tryz
attribute [local irreducible] RD RS AB RL RA RT CB Ai AD DP Cx BI By Ca B6 DJ Cf itemsN BZ AQ Bl BL Gr AK A2 At BW Ar A7 Aw A6 EG AL AN Cv Ap
section
variable {v u:MV}{a b:AZ}{ml l:List Ab}{s t:KF}{key k:ByteArray}{m:Ab}{rs ss:List BM}
def GR (v:MV)(a:AZ):Prop:=∀d,B6 v.mrk v.cl d->d.a≠a
def Sk (h:Dr v=0)(ho:GR v a):∀m∈v.mrk,Eo a m=true:=λm hm=>by
 have hc:=Ea (E4 h).ctx;have h1:=hc.hp m hm;have h2:=EP hc.hm hm;have h3:=ho (Ab.d m) (by unfold B6;exact .inl ⟨h1,by rw[h2];exact Int.le_refl _⟩);simpa[Eo]using h3
def We (h:Dr v=0)(ho:GR v a):∀d∈v.cl,Ep a d=true:=λd hd=>by
 have hc:=(E4 h).ctx.mayC hd;have h3:=ho d (by unfold B6;unfold AD at hc;exact .inr ⟨hc.2.2.1,hd⟩);simpa[Ep]using h3
def XV (h:Dr v=0)(ho:GR v a):∀x∈v.ent,H5 a x=true:=λx hx=>by
 have h3:=ho x.dot ((E4 h).mem hx).2.2.2;simpa[H5]using h3
def Wf (h:Dr v=0)(ho:GR v a):cv (Au v a)=cv v:=by
 unfold cv Au;simp only[List.filter_eq_self.2 (XV h ho),List.filter_eq_self.2 (Sk h ho),List.filter_eq_self.2 (We h ho)]
def iP {d:Ah}(h:B6 (Au v a).mrk (Au v a).cl d):d.a≠a/\B6 v.mrk v.cl d:=by
 have h:B6 (v.mrk.filter (Eo a)) (v.cl.filter (Ep a)) d:=h;have hne:d.a≠a:=λe=>by
  unfold B6 at h;rcases h with⟨h1,h2⟩|⟨-,h2⟩
  ·rw[e,mkN_out]at h2;omega
  have:=(List.mem_filter.1 h2).2;simp[Ep,e]at this
 exact⟨hne,(Sb hne).1 h⟩
def off_prune :GR (Au v a) a:=λ_ hd=>(iP hd).1
def LQ (h:GR v b):GR (Au v a) b:=λd hd=>h d (iP hd).2
def off_clean :∀{ml:List Ab} {v:MV},GR v b->GR (Ap ml v) b
 |[],v,h=>by rw[clean_nil];exact h
 |m::l,v,h=>by rw[DH];exact off_clean (LQ h)
def clean_offV : ∀ {ml : List Ab} {v : MV}, ∀ m ∈ ml, GR (Ap ml v) (AX m)
  | [], _, m, h => nomatch h
  | x :: l, v, m, h => by
    rw [DH];rcases List.mem_cons.1 h with rfl | h
    · exact off_clean off_prune
    exact clean_offV m h
def clean_cv : ∀ {ml : List Ab} {v : MV}, Dr v = 0 -> (∀ m ∈ ml, GR v (AX m)) -> cv (Ap ml v) = cv v
  | [], v, _, _ => by rw [clean_nil]
  | m :: l, v, h, ho => by
    rw [DH, clean_cv (H6 h) (λx hx => LQ (ho x (Aau _ hx))), Wf h (ho m AaC)]
def Q1 (hM:∀m∈ml,AD (Ab.d m))(h:Dr v=0)(ho:∀m∈ml,GR v (AX m)):Cw ml v=0:=by
 rw[cleanN_iff];intro m hm;have h2:=hM m hm;simp only[AD,Ab.d]at h2;have e:E5 (v.mrk.filter (Eo (AX m))) (v.cl.filter (Ep (AX m))) (AX m)=if AX m=AX m then 0 else E5 v.mrk v.cl (AX m):=topX_prune
 rw[List.filter_eq_self.2 (Sk h (ho m hm)),List.filter_eq_self.2 (We h (ho m hm)),if_pos rfl]at e;rw[e];omega
def Wg (h:FO v u=0)(h1:GR v a)(h2:GR u a):GR (B3 v u) a:=λd hd=>by
 obtain⟨e1,e2,e3,e4⟩:=El h;unfold B3 at hd;rw[e4]at hd;exact((Hw (E4 e1).ctx (E4 e2).ctx e3 d).1 hd).elim (h1 d) (h2 d)
def Wh (h:FO v u=0)(h1:Ez v.ent)(h2:Ez u.ent):Ez (B3 v u).ent/\IY (B3 v u):=by
 have hc:=E4 (M5 h);refine⟨λx hx=> ?_,⟨Aaa hc.len Zd,Aaa hc.ctx.1 Zd,Aaa hc.ctx.2.1 Zd,Aal _,Aal _,Aal _⟩⟩;obtain⟨-,-,-,e4⟩:=El h;unfold B3 at hx;rw[e4]at hx;exact(Lv hx).elim (h1 x) (h2 x)
structure Jw (s:KF):Prop where
 c:∀key v,s.c key=some v->AK key=true/\Dr v=0/\Ez v.ent/\IY v/\∀m∈s.m key,GR v (AX m)
 h:∀x,s.h x->(0<=x.owner/\x.owner<8)/\AK x.key=true
 m:∀key,s.m key≠ []->AK key=true
 mm:∀key,(s.m key).Pairwise BI/\∀x∈s.m key,AD (Ab.d x)
def inv0 :Jw kf0:=⟨(λ_ _ h=>nomatch h),(λ_ (h:False)=>h.elim),(λ_ h=>absurd rfl h),λ_=>⟨List.Pairwise.nil,λ_ h=>nomatch h⟩⟩
def Jw.app {r : BM} (h : Jw s) (hr : Kn s r) : Jw (Dz s r) := by
  cases r with
  | o n => exact ⟨h.c, h.h, h.m, h.mm⟩
  | j key v =>
    obtain ⟨x1, x2, x3, x4, x5, x6⟩ := hr;have hcl := M9 (ml := s.m key) x3 x4;have hcc := GH (ml := s.m key) x2;refine ⟨λk u hk => ?_, h.h, h.m, h.mm⟩;have hk : Dy s.c key (some (wV (s.c key) (Ap (s.m key) v))) k = some u := hk;show AK k = true /\ Dr u = 0 /\ Ez u.ent /\ IY u /\ ∀ m ∈ s.m k, GR u (AX m)
    by_cases e : k = key
    · subst e;rw [BD] at hk;obtain rfl := Option.some.inj hk;cases hc : s.c k with
      | none => exact ⟨x1, hcc, hcl.1, hcl.2, clean_offV⟩
      | some a =>
        rw [hc] at x6;obtain ⟨-, y2, y3, y4, y5⟩ := h.c k a hc;have hj := Wh x6 y3 hcl.1;exact ⟨x1, M5 x6, hj.1, hj.2, λm hm => Wg x6 (y5 m hm) (clean_offV m hm)⟩
    rw [BT e] at hk; exact h.c k u hk
  | d key =>
    refine ⟨λk u hk => ?_, h.h, h.m, h.mm⟩;have hk : Dy s.c key none k = some u := hk;by_cases e : k = key
    · subst e; rw [BD] at hk; cases hk
    rw [BT e] at hk; exact h.c k u hk
  | h x => exact ⟨h.c, λy hy => hy.elim (λe => e ▸ hr) (h.h y), h.m, h.mm⟩
  | u x => exact ⟨h.c, λy hy => h.h y hy.2, h.m, h.mm⟩
  | r key m =>
    obtain ⟨x1, x2, x3, x4⟩ := hr;refine ⟨λk u hk => ?_, h.h, λk hk => ?_, λk => ?_⟩
    · have hk : Dy s.c key ((s.c key).map λv => Au v (AX m)) k = some u := hk;show AK k = true /\ Dr u = 0 /\ Ez u.ent /\ IY u /\ ∀ x ∈ Dy s.m key (setM (s.m key) (Ab.d m)) k, GR u (AX x)
      by_cases e : k = key
      · subst e;rw [BD] at hk;obtain ⟨v, hv, rfl⟩ := Option.map_eq_some_iff.1 hk;obtain ⟨y1, y2, y3, y4, y5⟩ := h.c k v hv;refine ⟨x1, H6 y2, M7 y3, M8 y4, λx hx => ?_⟩;rw [BD] at hx;rcases E0 hx with e | hx
        · have e2 : AX x = AX m := by rw [e]
          rw [e2]; exact off_prune
        exact LQ (y5 x hx)
      rw [BT e] at hk ⊢; exact h.c k u hk
    · by_cases e : k = key
      · rw [e]; exact x1
      have hk : Dy s.m key (setM (s.m key) (Ab.d m)) k ≠ [] := hk;rw [BT e] at hk; exact h.m k hk
    show (Dy s.m key (setM (s.m key) (Ab.d m)) k).Pairwise BI /\ ∀ x ∈ Dy s.m key (setM (s.m key) (Ab.d m)) k, AD (Ab.d x)
    by_cases e : k = key
    · subst e;rw [BD];exact ⟨E1 (h.mm k).1, λx hx => (E0 hx).elim (λe => by rw [e]; exact x2) ((h.mm k).2 x)⟩
    rw [BT e]; exact h.mm k
def OkRun.inv {rs:List BM}:∀{s:KF},Jw s->OkRun s rs->Jw (DI s rs):=by
 induction rs with
 |nil=>exact λh _=>h
 |cons r rs ih=>exact λh k=>ih (h.app k.1) k.2
def PM (s:KF)(n:Nat):Prop:=∃l:List (ByteArray×Ab),l.length<=n/\∀key m,m∈s.m key->(key,m)∈l
def fewM0 :PM kf0 0:=⟨[],Aac _,λ_ _ h=>nomatch h⟩
def PM.app {r : BM} {n : Nat} (h : PM s n) : PM (Dz s r) (n + 1) := by
  obtain ⟨l, h1, h2⟩ := h;cases r with
  | r key m =>
    refine ⟨(key, m) :: l, by rw [Aaj]; omega, λk x hx => ?_⟩;have hx : x ∈ Dy s.m key (setM (s.m key) (Ab.d m)) k := hx;by_cases e : k = key
    · subst e;rw [BD] at hx;rcases E0 hx with e | hx
      · have e2 : x = m := e;rw [e2]; exact AaC
      exact Aau _ (h2 k x hx)
    rw [BT e] at hx; exact Aau _ (h2 k x hx)
  | o _ => exact ⟨l, by omega, h2⟩
  | j _ _ => exact ⟨l, by omega, h2⟩
  | d _ => exact ⟨l, by omega, h2⟩
  | h _ => exact ⟨l, by omega, h2⟩
  | u _ => exact ⟨l, by omega, h2⟩
def Wi {rs : List BM} : ∀ {s : KF} {n : Nat}, PM s n -> PM (DI s rs) (n + rs.length) := by
  induction rs with
  | nil => exact λh => h
  | cons r rs ih =>
    intro s n h;obtain ⟨l, h1, h2⟩ := ih (h.app (r := r));exact ⟨l, by rw [Aaj]; omega, h2⟩
noncomputable def EF (s:KF)(mk:List ByteArray):List BM:=mk.flatMap λk=>(s.m k).map (BM.r k)
noncomputable def Hd (s:KF)(ck:List ByteArray):List BM:=ck.map λk=>BM.j k ((s.c k).getD nilV)
def LR (hs:List AE):List BM:=hs.map BM.h
noncomputable def Gs (n:Nat)(s:KF)(mk ck:List ByteArray)(hs:List AE):List BM:=BM.o n::(EF s mk++(Hd s ck++LR hs))
def PN {n : Nat} {mk : List ByteArray} (hn : mk.Nodup) (hI : Jw s) (hf : PM s n) : (EF s mk).length <= n := by
  obtain ⟨l, h1, h2⟩ := hf;have key : ∀ mk : List ByteArray, mk.Nodup -> (mk.flatMap λk => (s.m k).map λm => (k, m)).Nodup := by
    intro mk;induction mk with
    | nil => exact λ_ => List.nodup_nil
    | cons k mk ih =>
      intro hn;rw [AaN] at hn;rw [Aa5, Aa1];refine ⟨?_, ih hn.2, λx hx y hy e => ?_⟩
      · rw [List.Nodup, AbZ];exact (hI.mm k).1.imp λhl e => by
          injection e with _ e
          subst e; exact IA hl
      obtain ⟨m, hm, rfl⟩ := List.mem_map.1 hx;obtain ⟨k2, hk2, hy⟩ := List.mem_flatMap.1 hy;obtain ⟨m2, -, rfl⟩ := List.mem_map.1 hy;injection e with e1 _
      subst e1; exact hn.1 hk2
  have h3 := EC (k := l) (key mk hn) λx hx => by
    obtain ⟨k, hk, hx⟩ := List.mem_flatMap.1 hx;obtain ⟨m, hm, rfl⟩ := List.mem_map.1 hx;exact h2 k m hm
  have e : (EF s mk).length = (mk.flatMap λk => (s.m k).map λm => (k, m)).length := by
    unfold EF;simp only [List.length_flatMap, Aad]
  omega
def JZ (n:Nat)(C:ByteArray->Option MV)(M:ByteArray->List Ab)(H:AE->Prop):KF:=⟨(n:Int),C,M,H⟩
def setM_snoc : ∀ {l : List Ab} {m : Ab}, (l ++ [m]).Pairwise BI -> setM l (Ab.d m) = l ++ [m]
  | [], m, _ => rfl
  | x :: l, m, h => by
    rw [AaW, Aaw] at h;have hx := h.1 m (AaR _ (List.mem_singleton.2 rfl));rw [setM, if_neg (H2 hx), if_neg (λe : BI (Ab.d m).m x => IA (CR hx e)), setM_snoc h.2]; rfl
def LT {n : Nat} (hk : AK k = true) : ∀ {l : List Ab} {M : ByteArray -> List Ab}, (M k ++ l).Pairwise BI -> (∀ x ∈ l, AD (Ab.d x)) -> (M k ++ l).length <= 999 ->
    OkRun (JZ n (λ_ => none) M λ_ => False) (l.map (BM.r k)) /\ DI (JZ n (λ_ => none) M λ_ => False) (l.map (BM.r k)) = JZ n (λ_ => none) (Dy M k (M k ++ l)) λ_ => False
  | [], M, _, _, _ => by
    refine ⟨trivial, ?_⟩;show JZ n (λ_ => none) M (λ_ => False) = _
    have e : Dy M k (M k ++ []) = M := by
      funext q;by_cases c : q = k
      · rw [c, BD, Aax]
      rw [BT c]
    rw [e]
  | m :: l, M, hp, hm, hl => by
    have hp1 : (M k ++ [m]).Pairwise BI := by
      rw [Acj, AaS] at hp; exact hp.1
    have e1 : Dz (JZ n (λ_ => none) M λ_ => False) (.r k m) = JZ n (λ_ => none) (Dy M k (M k ++ [m])) λ_ => False := by
      unfold JZ;rw [Dz];have e2 : Dy (λ_ => none) k ((Option.none : Option MV).map λv => Au v (AX m)) = (λ_ => none : ByteArray -> Option MV) := by
        funext q;by_cases c : q = k
        · rw [c, BD]; rfl
        rw [BT c]
      simp only [setM_snoc hp1, e2]
    have hok : Kn (JZ n (λ_ => none) M λ_ => False) (.r k m) := by
      refine ⟨hk, hm m AaC, λx hx => ?_, ?_⟩
      · have hx : x ∈ M k := hx;exact H2 ((List.pairwise_append.1 hp1).2.2 x hx m (List.mem_singleton.2 rfl))
      show (M k).length < 1000
      rw [Aab, Aaj] at hl; omega
    have ih := LT (n := n) hk (l := l) (M := Dy M k (M k ++ [m])) (by rw [BD, <- Acj]; exact hp) (λx hx => hm x (Aau _ hx)) (by rw [BD, <- Acj]; exact hl);rw [Aaf];refine ⟨⟨hok, by rw [e1]; exact ih.1⟩, ?_⟩;show DI (Dz _ _) _ = _
    rw [e1, ih.2, BD, <- Acj];have e3 : Dy (Dy M k (M k ++ [m])) k (M k ++ m :: l) = Dy M k (M k ++ m :: l) := by
      funext q;by_cases c : q = k
      · rw [c, BD, BD]
      rw [BT c, BT c, BT c]
    rw [e3]
open Classical in
def Jx {n : Nat} (hI : Jw s) (hl : ∀ k, (s.m k).length <= 999) : ∀ {mk : List ByteArray} {M : ByteArray -> List Ab}, mk.Nodup -> (∀ k ∈ mk, M k = []) ->
    OkRun (JZ n (λ_ => none) M λ_ => False) (EF s mk) /\ DI (JZ n (λ_ => none) M λ_ => False) (EF s mk) = JZ n (λ_ => none) (λk => if k ∈ mk then s.m k else M k) λ_ => False
  | [], M, _, _ => ⟨trivial, by
    show JZ n (λ_ => none) M (λ_ => False) = _
    congr 1;funext k; rw [if_neg (λh => nomatch h)]⟩
  | k :: mk, M, hn, h0 => by
    rw [AaN] at hn;have e : EF s (k :: mk) = (s.m k).map (BM.r k) ++ EF s mk := by unfold EF; rw [Aa5]
    have hMk := h0 k AaC;by_cases c : s.m k = []
    · rw [e, c, Aav, Aay];have ih := Jx (n := n) hI hl (mk := mk) (M := M) hn.2 λq hq => h0 q (Aau _ hq)
      refine ⟨ih.1, ih.2.trans ?_⟩;congr 1;funext q;by_cases c2 : q = k
      · subst c2; rw [if_neg hn.1, if_pos AaC, hMk, c]
      by_cases c3 : q ∈ mk
      · rw [if_pos c3, if_pos (Aau _ c3)]
      rw [if_neg c3, if_neg (λh => (List.mem_cons.1 h).elim c2 c3)]
    have h1 := LT (n := n) (hI.m k c) (l := s.m k) (M := M) (by rw [hMk]; exact (hI.mm k).1) (hI.mm k).2 (by rw [hMk]; exact hl k);rw [hMk, Aay] at h1;have ih := Jx (n := n) hI hl (mk := mk) (M := Dy M k (s.m k)) hn.2 λq hq => by
      rw [BT (λe : q = k => hn.1 (by rw [<- e]; exact hq))]; exact h0 q (Aau _ hq)
    rw [e];refine ⟨h1.1.append (by rw [h1.2]; exact ih.1), ?_⟩;rw [E6, h1.2, ih.2];congr 1;funext q;by_cases c2 : q = k
    · subst c2; rw [if_neg hn.1, if_pos AaC, BD]
    by_cases c3 : q ∈ mk
    · rw [if_pos c3, if_pos (Aau _ c3)]
    rw [if_neg c3, if_neg (λh => (List.mem_cons.1 h).elim c2 c3), BT c2]
open Classical in
def Nd {n : Nat} (hI : Jw s) : ∀ {ck : List ByteArray} {C : ByteArray -> Option MV}, ck.Nodup -> (∀ k ∈ ck, C k = none /\ s.c k ≠ none) ->
    OkRun (JZ n C s.m λ_ => False) (Hd s ck) /\ DI (JZ n C s.m λ_ => False) (Hd s ck) = JZ n (λk => if k ∈ ck then (s.c k).map (Ap (s.m k)) else C k) s.m λ_ => False
  | [], C, _, _ => ⟨trivial, by
    show JZ n C s.m (λ_ => False) = _
    congr 1;funext k; rw [if_neg (λh => nomatch h)]⟩
  | k :: ck, C, hn, h0 => by
    rw [AaN] at hn;obtain ⟨hC, hs⟩ := h0 k AaC;obtain ⟨v, hv⟩ : ∃ v, s.c k = some v := Option.ne_none_iff_exists'.1 hs;obtain ⟨y1, y2, y3, y4, y5⟩ := hI.c k v hv;have e : Hd s (k :: ck) = BM.j k v :: Hd s ck := by unfold Hd; rw [Aaf, hv]; rfl
    have e1 : Dz (JZ n C s.m λ_ => False) (.j k v) = JZ n (Dy C k (some (Ap (s.m k) v))) s.m λ_ => False := by
      unfold JZ;rw [Dz];simp only [hC, wV]
    have hok : Kn (JZ n C s.m λ_ => False) (.j k v) := ⟨y1, y2, y3, y4, Q1 (hI.mm k).2 y2 y5, by show wN (C k) _ = 0; rw [hC]; rfl⟩
    have ih := Nd (n := n) hI (ck := ck) (C := Dy C k (some (Ap (s.m k) v))) hn.2 λq hq => ⟨by
      rw [BT (λe : q = k => hn.1 (by rw [<- e]; exact hq))]; exact (h0 q (Aau _ hq)).1, (h0 q (Aau _ hq)).2⟩
    rw [e];refine ⟨⟨hok, by rw [e1]; exact ih.1⟩, ?_⟩;show DI (Dz _ _) _ = _
    rw [e1, ih.2];congr 1;funext q;by_cases c2 : q = k
    · subst c2; rw [if_neg hn.1, if_pos AaC, BD, hv]; rfl
    by_cases c3 : q ∈ ck
    · rw [if_pos c3, if_pos (Aau _ c3)]
    rw [if_neg c3, if_neg (λh => (List.mem_cons.1 h).elim c2 c3), BT c2]
def Nf {n : Nat} {C : ByteArray -> Option MV} {M : ByteArray -> List Ab} : ∀ {hs : List AE} {H : AE -> Prop}, (∀ x ∈ hs, (0 <= x.owner /\ x.owner < 8) /\ AK x.key = true) ->
    OkRun (JZ n C M H) (LR hs) /\ ∃ H', DI (JZ n C M H) (LR hs) = JZ n C M H' /\ ∀ x, H' x ↔ x ∈ hs \/ H x
  | [], H, _ => ⟨trivial, H, rfl, λx => ⟨.inr, λh => h.elim (λh => nomatch h) id⟩⟩
  | y :: hs, H, h => by
    obtain ⟨h1, H', h2, h3⟩ := Nf (n := n) (C := C) (M := M) (hs := hs) (H := λx => x = y \/ H x) λx hx => h x (Aau _ hx)
    refine ⟨⟨h y AaC, h1⟩, H', h2, λx => (h3 x).trans ?_⟩;rw [Aai];exact ⟨λe => e.elim (λe => .inl (.inr e)) (λe => e.elim (λe => .inl (.inl e)) .inr), λe => e.elim (λe => e.elim (λe => .inr (.inl e)) .inl) (λe => .inr (.inr e))⟩
structure HK (s t:KF):Prop where
 c:∀key,(s.c key).map cv=(t.c key).map cv
 m:∀key,s.m key=t.m key
 h:∀x,s.h x↔t.h x
def Wj {n : Nat} {mk ck : List ByteArray} {hs : List AE} (hI : Jw s) (hst : s.st = (n : Int)) (hn : n < 4611686018427387904) (hl : ∀ k, (s.m k).length <= 999) (h1 : mk.Nodup) (h2 : ∀ key, s.m key ≠ [] -> key ∈ mk) (h3 : ck.Nodup) (h4 : ∀ key, key ∈ ck ↔ s.c key ≠ none) (h5 : ∀ x, x ∈ hs ↔ s.h x) :
    OkRun kf0 (Gs n s mk ck hs) /\ HK (DI kf0 (Gs n s mk ck hs)) s /\ (DI kf0 (Gs n s mk ck hs)).st = n := by
  classical
  have e0 : Dz kf0 (.o n) = JZ n (λ_ => none) (λ_ => []) λ_ => False := rfl
  have hm := Jx (n := n) hI hl (mk := mk) (M := λ_ => []) h1 λ_ _ => rfl
  have e1 : (λk => if k ∈ mk then s.m k else []) = s.m := by
    funext k;by_cases c : k ∈ mk
    · rw [if_pos c]
    rw [if_neg c]; exact (Decidable.byContradiction λe => c (h2 k (Ne.symm e)))
  rw [e1] at hm;have hc := Nd (n := n) hI (ck := ck) (C := λ_ => none) h3 λk hk => ⟨rfl, (h4 k).1 hk⟩
  obtain ⟨hh1, H', hh2, hh3⟩ := Nf (n := n) (C := λk => if k ∈ ck then (s.c k).map (Ap (s.m k)) else none) (M := s.m) (hs := hs) (H := λ_ => False) λx hx => hI.h x ((h5 x).1 hx)
  have hrun : DI kf0 (Gs n s mk ck hs) = JZ n (λk => if k ∈ ck then (s.c k).map (Ap (s.m k)) else none) s.m H' := by
    show DI (Dz kf0 (.o n)) (EF s mk ++ (Hd s ck ++ LR hs)) = _
    rw [e0, E6, hm.2, E6, hc.2, hh2]
  refine ⟨⟨hn, ?_⟩, ?_, ?_⟩
  · rw [e0];exact hm.1.append (by rw [hm.2]; exact hc.1.append (by rw [hc.2]; exact hh1))
  · rw [hrun];refine ⟨λkey => ?_, λ_ => rfl, λx => ?_⟩
    · show ((if key ∈ ck then (s.c key).map (Ap (s.m key)) else none) : Option MV).map cv = _
      cases hv : s.c key with
      | none => rw [if_neg (λe => (h4 key).1 e hv)]
      | some v =>
        obtain ⟨y1, y2, y3, y4, y5⟩ := hI.c key v hv;rw [if_pos ((h4 key).2 (by rw [hv]; exact λe => nomatch e))];show some (cv (Ap (s.m key) v)) = some (cv v)
        rw [clean_cv y2 y5]
    show H' x ↔ s.h x
    rw [hh3, h5]; exact ⟨λe => e.elim id False.elim, .inl⟩
  rw [hrun]; rfl
end
end Go.Proofs.YtjkaicjmfgekjaaGreatDoor
namespace Go.Proofs.YtjkaicjmfgekjaaGreatDoor
open Go.Proofs.Tryz
attribute [local irreducible] RD RS AB RL RA RT CB Ai AD DP Cx BI By Ca B6 DJ Cf itemsN BZ AQ Bl BL Gr AK A2 At Ar A7 Aw A6 EG AL AN Cv setM Au Ap
structure gD where
 op:Int
 n:Int
 key:ByteArray
 cart:Bf
 mark:Ab
instance : Enc gD:=Enc.struct (λt=>[.int .i64 t.op,.int .i64 t.n,.string t.key,.slice t.cart.entries.a t.cart.entries.len t.cart.entries.cap,.slice t.cart.ctx.marks.a t.cart.ctx.marks.len t.cart.ctx.marks.cap,.slice t.cart.ctx.cloud.a t.cart.ctx.cloud.len t.cart.ctx.cloud.cap,.int .i64 t.mark.node,.int .i64 t.mark.life,.int .i64 t.mark.count]) 9 (λ_=>rfl) (λ_ v hv=>by simp at hv;rcases hv with rfl|rfl|rfl|rfl|rfl|rfl|rfl|rfl|rfl<;>rfl) Zd
structure Dx where
 op:Int
 n:Int
 key:ByteArray
 v:MV
 s:Gc
 m:Ab
def Dx.c (t:Dx):gD:=⟨t.op,t.n,t.key,(CY t.v t.s).cart,t.m⟩
def iQ (w:World)(ks:List Dx):Prop:=∀k∈ks,(Bi w k.s k.v/\Bn k.v k.s)/\k.key.size<=4294967295
structure Jy (syn:Nat)(rs:List BM)(pl:List PF)(s:KF):Prop where
 led:N4 syn rs pl s
 one:∀j,1<=j->(DI kf0 (rs.take j)).st=1
 ne:1<=rs.length
section
variable {syn :Nat}{rs rs':List BM}{pl pl':List PF}{s s':KF}{ts:List LM}{t:LM}
def ledK_B :Jy 1 [.o 1] plB sB:=⟨ledB.1,λj hj=>by
 have e:([BM.o 1]:List BM).take j=[.o 1]:=AaB (by simpa using hj);rw[e];rfl,Aac 1⟩
def Yt (rs rs':List BM)(s s':KF):Prop:=(rs'=rs/\s'=s)\/∃r,rs'=rs++[r]
def Jy.step (h:Jy syn rs pl s)(hl:rs.length<=45)(hs:(s'=s/\pl'=pl)\/∃r,Kn s r/\s'.st=s.st/\s'=Dz s r/\pl'=(Aw 4194304 pl (encK r)).2):
  ∃rs',Jy syn rs' pl' s'/\rs'.length<=rs.length+1/\Yt rs rs' s s':=by
 rcases hs with⟨rfl,rfl⟩|⟨r,hr,hst,rfl,rfl⟩
 ·exact⟨rs,h,Nat.le_succ _,.inl ⟨rfl,rfl⟩⟩
 refine⟨rs++[r],⟨h.led.app hl hr,λj hj=> ?_,by simp⟩,by simp,.inr ⟨r,rfl⟩⟩;by_cases c:j<=rs.length
 ·rw[AbV c];exact h.one j hj
 rw[AaB Zi,E6];show(Dz (DI kf0 rs) r).st=1
 rw[<-h.led.st,hst,h.led.st];have:=h.one rs.length h.ne
 rwa[Aap]at this
def Jy.sync (h:Jy syn rs pl s)(hl:rs.length<=45):Jy rs.length rs (GN pl) s:=⟨h.led.sync hl,h.one,h.ne⟩
def Z6 (syn:Nat)(rs:List BM)(ts:List LM):Prop:=∀j,syn<=j->j<=rs.length->∃t∈ts,IW (DI kf0 (rs.take j)) t
def Z6.step (h:Z6 syn rs ts)(hL:Jy syn rs' pl' s')(hn:Yt rs rs' s s')(ht:IW s' t):Z6 syn rs' (ts++[t]):=λj h1 h2=>by
 rcases hn with⟨rfl,-⟩|⟨r,rfl⟩
 ·obtain⟨u,hu,k⟩:=h j h1 h2;exact⟨u,AaQ _ hu,k⟩
 by_cases c:j<=rs.length
 ·obtain⟨u,hu,k⟩:=h j h1 c;exact⟨u,AaQ _ hu,by rw[AbV c];exact k⟩
 have e:(rs++[r]).take j=rs++[r]:=AaB Zi;rw[e,<-hL.led.st];exact⟨t,AaR _ (List.mem_singleton.2 rfl),ht⟩
end
end Go.Proofs.YtjkaicjmfgekjaaGreatDoor
