/-
  More
-/
import Derived.Test.YtjkaicjmfgekjaaGreatDoorPcDraw
import Derived.Scope
import Derived.Lib.ConvBytes
import Derived.Laws.Small
set_option linter.all false
namespace Go.Proofs.YtjkaicjmfgekjaaGreatDoor
section
variable {P :Program}{f:FuncId}{n:FN}{R:Ending->World->Prop}{k:List Item}{ρ:Bd}{w:World}
def Ai.scope {c:Code}(h:Ai P f n R (.code c:: .inScope c::k) ρ w):Ai P f n R (.code (.scope c)::k) ρ w:=h.step λ_=>step_scope
def Ai.inScope {c:Code}(h:Ai P f n R k ρ w):Ai P f n R (.inScope c::k) ρ w:=h.step λ_=>step_inScope
end
section
variable {P :Program}{n:FN}{ρ:Bd}{w:World}
variable {dst :Option Nat}{ty:TypeId}{pos:String}{af:Array Edge}{g:Option (Nat×Bool)}
def I1 {t t':TypeId}{x y:Operand}{kd:IntKind}{a b:Int}(hx:rd n ρ x= .int kd a)(hy:rd n ρ y= .int kd b):
  X P n ρ ⟨dst,.call {callee:= .builtin .max,args:=#[x,y],argTypes:=#[t,t']},ty,pos,af,g⟩ w (.int kd (max a b)) w:=by
 have e:(if b>a then b else a)=max a b:=by split<;>omega
 simp[X,execOp,resolve,invoke,builtin,hx,hy,Builtin.max_,Builtin.max2,e]
def If (a:Option Addr)(m i size:Nat):Option Addr:=if m=i then a else a.map (·.add (i*size))
def Od {t e:TypeId}{x:Operand}{lo hi mx:Option Operand}{a:Option Addr}{l c size bytes:Nat}{z:Value}{agg:Bool}{i j m:Nat}(ht:P.underlying t=some (.slice e))(he:Ty P e size bytes z agg)
  (hx:rd n ρ x= .slice a l c) (hb:(Instr.sliceBounds true l c (lo.map (rd n ρ)) (hi.map (rd n ρ)) (mx.map (rd n ρ))).run P w= .ok (i,j,m) w):
  X P n ρ ⟨dst,.slice t x lo hi mx,ty,pos,af,g⟩ w (.slice (If a m i size) (j-i) (m-i)) w:=by
 simp only[X,execOp,hx,Instr.sliceAt,Sem.run_bind,run_underlying ht,Result.andThen_ok,Instr.slice,hb,he.run_size,Sem.run_pure,If]
section
variable {α :Type}[Enc α]{xs:List α}
def Dg {t e:TypeId}{x lo:Operand}{a:Option Addr}{c bytes:Nat}{z:Value}{agg:Bool}{i:Nat}{kd:IntKind}(ht:P.underlying t=some (.slice e))(he:Ty P e (Enc.size α) bytes z agg)
  (hx:rd n ρ x= .slice a xs.length c) (hi:rd n ρ lo= .int kd (i:Int)) (h1:i<=xs.length):
  X P n ρ ⟨dst,.slice t x (some lo) none none,ty,pos,af,g⟩ w (.slice (If a c i (Enc.size α)) (xs.drop i).length (c-i)) w:=by
 have hb:(Instr.sliceBounds true xs.length c (some (.int kd (i:Int))) none none).run P w= .ok (i,xs.length,c) w:=by simp[Instr.sliceBounds,Instr.sliceBound,asIntOf,h1]
 rw[List.length_drop];exact Od (lo:=some lo) (hi:=none) (mx:=none) ht he hx (by simpa[hi]using hb)
def Sl {t e:TypeId}{x lo hi:Operand}{a:Option Addr}{l c size bytes:Nat}{z:Value}{agg:Bool}{i j:Nat}{kd kd':IntKind}(ht:P.underlying t=some (.slice e))(he:Ty P e size bytes z agg)
  (hx:rd n ρ x= .slice a l c) (hlo:rd n ρ lo= .int kd (i:Int)) (hj:rd n ρ hi= .int kd' (j:Int)) (h1:i<=j) (h2:j<=c):
  X P n ρ ⟨dst,.slice t x (some lo) (some hi) none,ty,pos,af,g⟩ w (.slice (If a c i size) (j-i) (c-i)) w:=by
 have hb:(Instr.sliceBounds true l c (some (.int kd (i:Int))) (some (.int kd' (j:Int))) none).run P w= .ok (i,j,c) w:=by simp[Instr.sliceBounds,Instr.sliceBound,asIntOf,h1,h2]
 exact Od (lo:=some lo) (hi:=some hi) (mx:=none) ht he hx (by simpa[hlo,hj]using hb)
def Ax.from {a:Option Addr}(h:Ax w a xs)(i m:Nat)(hm:xs.length<=m):Ax w (If a m i (Enc.size α)) (xs.drop i):=by
 unfold If;split
 ·rename_i e;exact .inl (Aa0 Zo)
 rcases h with rfl|⟨b,o,rfl,hc⟩
 ·exact .inl Zs
 have:=Ax.drop (.inr ⟨b,o,rfl,hc⟩:Ax w (some ⟨b,o,none⟩) xs) i (xs.length-i) rfl
 rw[AaB Zs]at this;simpa[Addr.add_lit]using this
def Af.take {T:TypeId}{a:Option Addr}{cap:Nat}(h:Af w T a cap xs)(m:Nat):Af w T a cap (xs.take m):=by
 refine⟨AH _,?_⟩;rcases h.cases with⟨rfl,rfl,rfl⟩|⟨g,cur,rfl,h1,h2,h3,h4,h5⟩
 ·exact .inl Zs
 refine .inr ⟨g,cap,cur,rfl,Aal _,h1,?_,h3,h4,?_⟩
 ·have:=Aba m xs;have:=List.length_take_le' m xs;omega
 rw[He,<-h5,AbU];congr 1;rw[List.length_take,AbI,AbI];split<;>split
 ·rfl
 ·rename_i h6 h7;exact absurd (AaZ _ h6) h7
 ·rename_i h6 h7;have:=AaZ (Enc.size α) (Nat.le_of_not_le h6)
  omega
 rfl
end
end
section
variable {α :Type}[Enc α]
def flat_set : ∀ (xs : List α) (i : Nat) (x' : α), i < xs.length -> AS (xs.set i x') = (AS xs).take (i * Enc.size α) ++ cellsOf x' ++ (AS xs).drop (i * Enc.size α + Enc.size α)
  | x :: xs, 0, x', _ => by
    rw [List.set_cons_zero, Cd, Cd, Nat.zero_mul, Aaq, AaF, Aay, <- AI x, AbG]
  | x :: xs, i + 1, x', h => by
    have hl := AI x;have e1 : (i + 1) * Enc.size α = (cellsOf x).length + i * Enc.size α := by rw [hl, AaY]; omega
    rw [List.set_cons_succ, Cd, flat_set xs i x' (by simpa using h), Cd, e1, Acl, Abs, List.drop_length_add_append];simp
def Wx (xs:List α)(i:Nat)(x:α)(hx:xs[i]? =some x):((AS xs).drop (i*Enc.size α)).take (Enc.size α)=cellsOf x:=by
 obtain⟨hi,rfl⟩:=List.getElem?_eq_some_iff.1 hx;apply Abu;intro j;rw[AbF];by_cases hj:j<Enc.size α
 ·rw[if_pos hj,Abt];have hl:=AI xs[i];rw[GT xs i hi j (cellsOf xs[i])[j] Zs];simp
 rw[if_neg hj,Ab3 (by rw[AI];omega)]
variable {P :Program}{f:FuncId}{n:FN}{R:Ending->World->Prop}{k:List Item}{ρ:Bd}{w:World}
variable {ty :TypeId}{pos:String}{af:Array Edge}{K:Bd->World->Prop}
def Af.store {T:TypeId}{a:Option Addr}{cap:Nat}{xs:List α}{i off size:Nat}{x x':α}{cs:List Value}{b o:Nat}(h:Af w T a cap xs)(ha:a=some ⟨b,o,none⟩)(hx:xs[i]? =some x)
  (hcs:cs.length=size) (hfit:off+size<=Enc.size α) (hx':cellsOf x'=(cellsOf x).take off++cs++(cellsOf x).drop (off+size)):
  o=0/\∃c:List Value,AC w b c T/\(i*Enc.size α+off)+size<=c.length/\
   (∀w',AC w' b (c.take (i*Enc.size α+off)++cs++c.drop (i*Enc.size α+off+size)) T->Af w' T a cap (xs.set i x')):=by
 obtain⟨hi,hxi⟩:=List.getElem?_eq_some_iff.1 hx;rcases h.cases with⟨h1,_⟩|⟨g,cur,h1,h2,h3,h4,h5,h6⟩
 ·rw[h1]at ha;cases ha
 rw[h1]at ha;simp only[Option.some.injEq,Addr.mk.injEq]at ha;obtain⟨rfl,rfl,_⟩:=ha;subst h1;have hmul:(i+1)*Enc.size α<=xs.length*Enc.size α:=AaZ _ hi;have hmul2:xs.length*Enc.size α<=cap*Enc.size α:=AaZ _ h3;rw[AaY]at hmul;refine⟨rfl,cur.toList,by simpa[AC]using h2,by simp only[AaA];omega,λw' hb=>⟨AH _,.inr ⟨g,cap,_,by rw[Aa3],Aal _,hb,by rw[Aa3];exact h3,h4,?_,?_⟩⟩⟩
 ·simp only[Aa8,Aab,List.length_take,List.length_drop,AaA,hcs];omega
 rw[Aa3,flat_set xs i x' hi,hx',<-h6];generalize hS:Enc.size α=S at*;generalize hL:xs.length*S=L at*;have hxc:(cur.toList.drop (i*S)).take S=cellsOf x:=by
  have:=Wx xs i x hx
  rw[hS,<-h6,List.drop_take,AbU,Abv Zo]at this;exact this
 generalize hM:i*S=M at*;rw[<-hxc];apply Abu;intro j;have hcl:cur.toList.length=cap*S:=by simpa using h5
 simp only[AbF,List.getElem?_append,Aab,List.length_take,List.length_drop,Abt,hcs,hcl];by_cases hj:j<L
 ·simp only[hj,if_true];by_cases h7:j<M
  ·simp only[show j<min (M+off) (cap*S)from by omega,show j<min (M+off) (cap*S)+size from by omega,show j<min M (min L (cap*S))from by omega,
    show j<min M (min L (cap*S))+(min off (min S (cap*S-M))+size+(min S (cap*S-M)-(off+size)))from by omega,if_true,h7,show j<M+off from by omega]
  obtain⟨q,rfl⟩:∃q,j=M+q:=⟨j-M,by omega⟩
  simp only[show¬(M+q<min M (min L (cap*S)))from by omega,if_false,show M+q-min M (min L (cap*S))=q from by omega];by_cases h8:q<S
  ·simp only[show M+q<min M (min L (cap*S))+(min off (min S (cap*S-M))+size+(min S (cap*S-M)-(off+size)))from by omega,if_true];by_cases h9:q<off
   ·simp only[show M+q<min (M+off) (cap*S)from by omega,show M+q<min (M+off) (cap*S)+size from by omega,show M+q<M+off from by omega,
     show q<min off (min S (cap*S-M))from by omega,show q<min off (min S (cap*S-M))+size from by omega,if_true,h9,h8]
   by_cases h10:q<off+size
   ·simp only[show¬(M+q<min (M+off) (cap*S))from by omega,show M+q<min (M+off) (cap*S)+size from by omega,
     show¬(q<min off (min S (cap*S-M)))from by omega,show q<min off (min S (cap*S-M))+size from by omega,if_true,if_false]
    congr 1;omega
   simp only[show¬(M+q<min (M+off) (cap*S)+size)from by omega,show¬(q<min off (min S (cap*S-M))+size)from by omega,if_false,
    show off+size+(q-(min off (min S (cap*S-M))+size))<S from by omega,if_true]
   congr 1;omega
  simp only[show¬(M+q<min M (min L (cap*S))+(min off (min S (cap*S-M))+size+(min S (cap*S-M)-(off+size))))from by omega,if_false,
   show¬(M+q<min (M+off) (cap*S)+size)from by omega]
  rw[if_pos Zo];congr 1;omega
 simp only[hj,if_false];rw[if_neg Zo,if_neg Zo]
def AB.storeEl {t:TypeId}{x y:Operand}{b o o' size bytes:Nat}{z v:Value}{agg:Bool}{T:TypeId}{a:Option Addr}{cap:Nat}{xs:List α}{i off:Nat}{e:α}(e':α)
  (he:Ty P t size bytes z agg) (hx:rd n ρ x= .pointer (some ⟨b,o',none⟩)) (hy:rd n ρ y=v) (hs:v.cells.size=size) (h1:∀u∈v.cells.toList,u.oneCell'=true)
  (hown:Af w T a cap xs) (ha:a=some ⟨b,o,none⟩) (hi:xs[i]? =some e) (ho':o'=o+i*Enc.size α+off) (hfit:off+size<=Enc.size α)
  (hc:cellsOf e'=(cellsOf e).take off++v.cells.toList++(cellsOf e).drop (off+size))
  (h:∀w',Af w' T a cap (xs.set i e')->Ae (own a) w w'->K ρ w'):
  AB P f n R k ⟨none,.store t x y,ty,pos,af,none⟩ ρ w K:=by
 obtain⟨rfl,c,hb,hle,hset⟩:=hown.store ha hi (cs:=v.cells.toList) (size:=size) (off:=off) (by simpa using hs) hfit hc;rw[Aaq]at ho';subst ho';refine AB.store he hx hy hs h1 hb hle λw' hb' hK=>h w' (hset w' hb') (hK.mono λx _ hx=> ?_)
 simp only[one]at hx;subst hx;subst ha;exact CS.2 rfl
def AB.clearTail {t e:TypeId}{x:Operand}{bytes:Nat}{z:Value}{agg:Bool}{a:Option Addr}{cap m c':Nat}{xs:List α}{dst:Option Nat}
  (ht:P.underlying t=some (.slice e)) (he:Ty P e (Enc.size α) bytes z agg) (hzs:z.cells.size=Enc.size α) (hz1:∀u∈z.cells.toList,u.oneCell'=true)
  (hx:rd n ρ x= .slice (If a cap xs.length (Enc.size α)) m c') (hown:Af w e a cap xs) (hm:xs.length+m<=cap)
  (h:∀w',Af w' e a cap xs->Ae (own a) w w'->K (Bj ρ dst (.tuple #[])) w'):
  AB P f n R k ⟨dst,.call {callee:= .builtin .clear,args:=#[x],argTypes:=#[t]},ty,pos,af,none⟩ ρ w K:=by
 have hnone:∀(y:Option Addr) (m':Nat),(y=none\/m'=0)->(Builtin.clear_ #[t] ty #[.slice y m' c']).run P w= .ok (.tuple #[]) w:=by
  intro y m' hy;rcases hy with rfl|rfl
  ·simp[Builtin.clear_,run_underlying ht]
  cases y<;>simp[Builtin.clear_,run_underlying ht]
 rcases hown.cases with⟨rfl,rfl,rfl⟩|⟨g,cur,rfl,h1,h2,h3,h4,h5⟩
 ·refine AB.val (v:= .tuple #[]) (w':=w) ?_ (h w hown (Ae.refl _ w));have hm0:m=0:=by simp at hm;exact hm
  subst hm0;simp only[execOp,resolve,invoke,builtin,Sem.run_bind,Sem.run_pure,Result.andThen_ok,Aa9,Aaf,Aav,hx,hnone _ 0 (.inr rfl)]
 by_cases hm0:m=0
 ·subst hm0;refine AB.val (v:= .tuple #[]) (w':=w) ?_ (h w hown (Ae.refl _ w));simp only[execOp,resolve,invoke,builtin,Sem.run_bind,Sem.run_pure,Result.andThen_ok,Aa9,Aaf,Aav,hx,hnone _ 0 (.inr rfl)]
 have hadv:If (some ⟨g,0,none⟩) cap xs.length (Enc.size α)=some ⟨g,xs.length*Enc.size α,none⟩:=by
  unfold If;rw[if_neg Zo];simp[Addr.add_lit]
 rw[hadv]at hx;have hlen:(Builtin.zeroCells z.cells m).toList.length=m*Enc.size α:=by rw[AaA,size_zeroCells,hzs]
 have hle:(xs.length+m)*Enc.size α<=cap*Enc.size α:=AaZ _ hm;rw[Aa7]at hle;have hone:∀u∈(Builtin.zeroCells z.cells m).toList,u.oneCell'=true:=by
  intro u hu;simp only[Builtin.zeroCells,Array.toList_map,Aae]at hu;obtain⟨j,_,rfl⟩:=hu;have hpos:=Enc.pos (α:=α);have hj:j%z.cells.size<z.cells.size:=Abb _ Zo;rw[getElem!_pos z.cells _ hj];exact hz1 _ Zs
 have hst:=run_storeCells_at P g (xs.length*Enc.size α) e (Builtin.zeroCells z.cells m).toList 0 cur w h1 (by rw[hlen];omega) hone;simp only[Nat.add_zero]at hst;obtain⟨q,rfl⟩:∃q,m=q+1:=⟨m-1,by omega⟩
 refine AB.val (v:= .tuple #[]) (w':=w.setRow g (cur.toList.take (xs.length*Enc.size α)++(Builtin.zeroCells z.cells (q+1)).toList++cur.toList.drop (xs.length*Enc.size α+(Builtin.zeroCells z.cells (q+1)).toList.length)).toArray) ?_ (h _ ?_ (Ae.mono (Ae.setRow w g _) λx _ hx=>by simp only[one]at hx;subst hx;exact CS.2 rfl))
 ·simp only[execOp,resolve,invoke,builtin,Sem.run_bind,Sem.run_pure,Result.andThen_ok,Aa9,Aaf,Aav,hx];simp[Builtin.clear_,run_underlying ht,he.run_zero];rw[hst];simp only[Result.andThen_ok,Aar,AaA]
 refine⟨AH _,.inr ⟨g,cap,_,rfl,Aal _,setRow_heap w g cur _ e _ h1,h2,h3,?_,?_⟩⟩
 ·simp only[Aa8,Aab,List.length_take,List.length_drop,AaA]at hlen⊢;omega
 rw[<-h5];simp only[Aar];rw[AbV Zi,AbU,Nat.min_self]
end
instance : Enc UInt8 where
 val b:= .int .u8 b.toNat
 size:=1
 agg:=false
 shape _:=⟨λh=>(by cases h),λ_=>⟨rfl,rfl⟩⟩
 plain _ v hv:=by simp[Value.cells]at hv;subst hv;rfl
 pos:=by decide
def HQ (l:List UInt8):AS l=l.map λb=>Value.int .u8 (b.toNat:Int):=by
 induction l with
 |nil=>rfl
 |cons x l ih=>rw[Cd,ih];rfl
section
variable {P :Program}{f:FuncId}{n:FN}{R:Ending->World->Prop}{k:List Item}{ρ:Bd}{w:World}
variable {dst :Option Nat}{ty:TypeId}{pos:String}{af:Array Edge}{K:Bd->World->Prop}
def AB.bytes {s d e : TypeId} {x : Operand} {str : ByteArray} {u : TypeDesc} (hs : P.underlying s = some u) (hd : P.underlying d = some (.slice e)) (he : P.underlying e = some (.int .u8)) (hx : rd n ρ x = .string str)
    (h : ∀ b c w', w.heap.size <= b -> Ax w' (some ⟨b, 0, none⟩) str.data.toList -> As w w' -> K (Bj ρ dst (.slice (some ⟨b, 0, none⟩) str.data.toList.length c)) w') :
    AB P f n R k ⟨dst, .convert s d x, ty, pos, af, none⟩ ρ w K := by
  have hr := Lib.run_convert_string_bytes (P := P) w s d e str hs hd he;refine AB.val (v := .slice (some ⟨w.heap.size, 0, none⟩) str.data.toList.length (grownCap w str.size 0 e)) (w' := Lib.bytesWorld w e str) ?_ (h _ _ _ (Aac _) ?_ ?_)
  · have e1 : str.data.toList.length = str.size := by simp
    simp only [execOp, hx, Sem.run_bind, hr, Result.andThen_ok, Sem.run_pure, e1]
  · refine .inr ⟨w.heap.size, 0, rfl, Lib.bytesCells w e str, e, _, Lib.bytesWorld_at_new w e str, λj v hv => ?_⟩;rw [HQ, Aaz] at hv;rw [Aaq];cases hj : str.data.toList[j]? with
    | none => rw [hj] at hv; cases hv
    | some c =>
      rw [hj] at hv;have hlt : j < str.data.size := by have := (List.getElem?_eq_some_iff.1 hj).1; simpa using this
      simp only [Lib.bytesCells, Array.getElem?_append, Array.size_map, hlt, if_true, Array.getElem?_map];rw [<- hv];simpa using congrArg (Option.map λb : UInt8 => Value.int .u8 (b.toNat : Int)) (show str.data[j]? = some c by simpa using hj)
  exact ⟨rfl, rfl, rfl, by rw [Lib.bytesWorld_size]; omega, λj hj _ => Lib.bytesWorld_at_old w e str j hj⟩
end
section
variable {P :Program}{f:FuncId}{n:FN}{R:Ending->World->Prop}{k:List Item}{ops:Array Oper}{ρ:Bd}{w:World}
variable {dst :Option Nat}{op:Op}{ty:TypeId}{pos:String}{af:Array Edge}{S:World->Prop}{U:List Nat}{fuel:Nat}{listed:Array Bool}{g:Option (Nat×Bool)}
def CB (P:Program)(f:FuncId)(n:FN)(R:Ending->World->Prop)(k:List Item)(ops:Array Oper)(S:World->Prop)(U:List Nat)(fuel:Nat)(listed:Array Bool)(i:Nat)(ρ:Bd)(w:World):Prop:=
 wpOp P ops (IZ P f n R k) i (λa' w'=>∃ρ',a'=Ci n ρ'/\(CC U (listed.setIfInBounds i true)=true\/S w')/\RT P f n R k ops S U fuel (listed.setIfInBounds i true) ρ' w') (Ci n ρ) w
def RT.fork2 (i j:Nat)(hr:Region.ready .any ops listed=[i,j])(h1:CB P f n R k ops S U fuel listed i ρ w)(h2:CB P f n R k ops S U fuel listed j ρ w):RT P f n R k ops S U (fuel+1) listed ρ w:=by
 refine⟨λh0=>(by rw[hr]at h0;cases h0),λq hq=> ?_⟩;rw[hr]at hq;simp only[Aai,List.not_mem_nil,or_false]at hq;rcases hq with rfl|rfl
 ·refine wpOp_mono (λa' w' h'=> ?_) h1;obtain⟨ρ',rfl,h3,h4⟩:=h';exact⟨h3,h4⟩
 refine wpOp_mono (λa' w' h'=> ?_) h2;obtain⟨ρ',rfl,h3,h4⟩:=h';exact⟨h3,h4⟩
def CB.st {i:Nat}(hi:ops[i]? =some ⟨dst,op,ty,pos,af,none⟩)
  (h:AB P f n R k ⟨dst,op,ty,pos,af,none⟩ ρ w (λρ' w'=>(CC U (listed.setIfInBounds i true)=true\/S w')/\RT P f n R k ops S U fuel (listed.setIfInBounds i true) ρ' w')):CB P f n R k ops S U fuel listed i ρ w:=by
 unfold CB wpOp;simp only[hi,Region.wanted,if_true];exact .inl h
def CB.gst {i:Nat}(hi:ops[i]? =some ⟨dst,op,ty,pos,af,g⟩)(hw:Region.wanted ⟨dst,op,ty,pos,af,g⟩ (yielded ops (Ci n ρ).tmps)=true)
  (h:AB P f n R k ⟨dst,op,ty,pos,af,none⟩ ρ w (λρ' w'=>(CC U (listed.setIfInBounds i true)=true\/S w')/\RT P f n R k ops S U fuel (listed.setIfInBounds i true) ρ' w')):CB P f n R k ops S U fuel listed i ρ w:=by
 unfold CB wpOp;simp only[hi,hw,if_true];exact .inl h
def RT.gst (i:Nat)(hi:ops[i]? =some ⟨dst,op,ty,pos,af,g⟩)(hr:Region.ready .any ops listed=[i])(hw:Region.wanted ⟨dst,op,ty,pos,af,g⟩ (yielded ops (Ci n ρ).tmps)=true)
  (h:AB P f n R k ⟨dst,op,ty,pos,af,none⟩ ρ w (λρ' w'=>(CC U (listed.setIfInBounds i true)=true\/S w')/\RT P f n R k ops S U fuel (listed.setIfInBounds i true) ρ' w')):RT P f n R k ops S U (fuel+1) listed ρ w:=
 RT.one i hi hr (CB.gst hi hw h)
variable {o :Oper}{j t:Nat}{oj:Oper}
def Oe (hg:o.guard=some (j,true))(hj:ops[j]? =some oj)(hd:oj.dst=some t)(hb:rd n ρ (.tmp t)= .bool true):Region.wanted o (yielded ops (Ci n ρ).tmps)=true:=BX hg hj hd hb
def DU (hg:o.guard=some (j,true))(hj:ops[j]? =some oj)(hd:oj.dst=some t)(hb:rd n ρ (.tmp t)= .bool false):Region.wanted o (yielded ops (Ci n ρ).tmps)=false:=BX hg hj hd hb
def BJ (hg:o.guard=some (j,false))(hj:ops[j]? =some oj)(hd:oj.dst=some t)(hb:rd n ρ (.tmp t)= .bool false):Region.wanted o (yielded ops (Ci n ρ).tmps)=true:=Cc hg hj hd hb
def DV (hg:o.guard=some (j,false))(hj:ops[j]? =some oj)(hd:oj.dst=some t)(hb:rd n ρ (.tmp t)= .bool true):Region.wanted o (yielded ops (Ci n ρ).tmps)=false:=Cc hg hj hd hb
def RL.gst {rest:List Oper}(hw:Region.wanted ⟨dst,op,ty,pos,af,g⟩ (yielded ops (Ci n ρ).tmps)=true)(h:AB P f n R k ⟨dst,op,ty,pos,af,none⟩ ρ w (RL P f n R k ops rest)):RL P f n R k ops (⟨dst,op,ty,pos,af,g⟩::rest) ρ w:=
 RL.guardT hw (RL.st rfl h)
end
section
variable {P :Program}{n:FN}{ρ:Bd}{w w':World}{o:Oper}{b:Bool}
def DR (h:X P n ρ o w (.bool b) w')(hb:b=true):X P n ρ o w (.bool true) w':=by subst hb;exact h
def DK (h:X P n ρ o w (.bool b) w')(hb:b=false):X P n ρ o w (.bool false) w':=by subst hb;exact h
def AA {kd:IntKind}{a c:Int}(h:X P n ρ o w (.int kd a) w')(hb:a=c):X P n ρ o w (.int kd c) w':=by subst hb;exact h
def Ed {c x y:Operand}{e:Bool}{dst:Option Nat}{ty:TypeId}{pos:String}{af:Array Edge}{g:Option (Nat×Bool)}(hc:rd n ρ c= .bool false)(hx:rd n ρ x= .bool true)(hy:rd n ρ y= .bool e):
  X P n ρ ⟨dst,.pick c x y,ty,pos,af,g⟩ w (.bool e) w:=Er (b:=false) hc hx hy
def BP {c x y:Operand}{e:Bool}{dst:Option Nat}{ty:TypeId}{pos:String}{af:Array Edge}{g:Option (Nat×Bool)}(hc:rd n ρ c= .bool true)(hx:rd n ρ x= .bool e)(hy:rd n ρ y= .bool false):
  X P n ρ ⟨dst,.pick c x y,ty,pos,af,g⟩ w (.bool e) w:=Bo (b:=true) hc hx hy
def AC.at {w:World}{b i:Nat}{c:List Value}{T:TypeId}{v:Value}(h:AC w b c T)(hv:c[i]? =some v):Cl w b i [v]:=by have:=h.cl.field (i:=i) hv;rwa[Aaq]at this
end
section
variable {P :Program}{n:FN}{ρ:Bd}{w:World}{dst:Option Nat}{ty:TypeId}{pos:String}{af:Array Edge}{g:Option (Nat×Bool)}
def I2 {t:TypeId}{x ix:Operand}{s:ByteArray}{kd:IntKind}{i:Nat}{c:UInt8}(ht:P.underlying t=some .string)(hx:rd n ρ x= .string s)(hi:rd n ρ ix= .int kd (i:Int))(hc:s.data.toList[i]? =some c):
  X P n ρ ⟨dst,.index t x ix,ty,pos,af,g⟩ w (.int .u8 (c.toNat:Int)) w:=by
 obtain⟨h1,rfl⟩:=List.getElem?_eq_some_iff.1 hc;have h2:i<s.size:=by simpa using h1
 have:=T5 (P:=P) (w:=w) (dst:=dst) (ty:=ty) (pos:=pos) (af:=af) (g:=g) ht hx hi Zo (by simpa using h2)
 have e:(s[(i:Int).toNat]'(by simpa using h2))=s.data.toList[i]:=by simp;rfl
 rwa[e]at this
def gG {s:Operand}{a:Option Addr}{m m' c:Nat}(hr:rd n ρ s= .slice a m c)(h:m'=m):rd n ρ s= .slice a m' c:=h▸hr
def gH (s:ByteArray){i:Nat}(h:i<s.size):∃c:UInt8,s.data.toList[i]? =some c:=⟨s.data.toList[i]'(by simpa using h),by simp⟩
def Gv (s:ByteArray):s.data.toList.length=s.size:=by simp
def YC (s:ByteArray):decide (s=⟨#[]⟩)=decide (s.size=0):=by
 congr 1;rw[eq_iff_iff];constructor
 ·rintro rfl;rfl
 intro h;cases s with|mk d=>have h':d.size=0:=h;rw[Array.eq_empty_of_size_eq_zero h']
end
section
variable {P :Program}{n:FN}{ρ:Bd}{w:World}{dst:Option Nat}{ty:TypeId}{pos:String}{af:Array Edge}
end
end Go.Proofs.YtjkaicjmfgekjaaGreatDoor
