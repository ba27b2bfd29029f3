/-
  More
-/
import Derived.Test.YtjkaicjmfgekjaaGreatDoorPkDraw
import Derived.Scope
import Derived.Lib.ConvBytes
import Derived.Laws.Small
set_option linter.all false
namespace Go.Proofs.YtjkaicjmfgekjaaGreatDoor
section
variable {P :Program}{f:FuncId}{n:FN}{R:Ending→World→Prop}{k:List Item}{ρ:AV}{w:World}
theorem Aj.scope {c:Code}(h:Aj P f n R (.code c:: .inScope c::k) ρ w):Aj P f n R (.code (.scope c)::k) ρ w:=h.step fun _=>step_scope
theorem Aj.inScope {c:Code}(h:Aj P f n R k ρ w):Aj P f n R (.inScope c::k) ρ w:=h.step fun _=>step_inScope
end
section
variable {P :Program}{n:FN}{ρ:AV}{w:World}
variable {dst :Option Nat}{ty:TypeId}{pos:String}{af:Array Edge}{g:Option (Nat×Bool)}
theorem IG {t t':TypeId}{x y:Operand}{kd:IntKind}{a b:Int}(hx:rd n ρ x= .int kd a)(hy:rd n ρ y= .int kd b):
  X P n ρ ⟨dst,.call {callee:= .builtin .max,args:=#[x,y],argTypes:=#[t,t']},ty,pos,af,g⟩ w (.int kd (max a b)) w:=by
 have e:(if b>a then b else a)=max a b:=by split<;>omega
 simp[X,execOp,resolve,invoke,builtin,hx,hy,Builtin.max_,Builtin.max2,e]
def GN (a:Option Addr)(m i size:Nat):Option Addr:=if m=i then a else a.map (·.add (i*size))
theorem LC {t e:TypeId}{x:Operand}{lo hi mx:Option Operand}{a:Option Addr}{l c size bytes:Nat}{z:Value}{agg:Bool}{i j m:Nat}(ht:P.underlying t=some (.slice e))(he:Ty P e size bytes z agg)
  (hx:rd n ρ x= .slice a l c) (hb:(Instr.sliceBounds true l c (lo.map (rd n ρ)) (hi.map (rd n ρ)) (mx.map (rd n ρ))).run P w= .ok (i,j,m) w):
  X P n ρ ⟨dst,.slice t x lo hi mx,ty,pos,af,g⟩ w (.slice (GN a m i size) (j-i) (m-i)) w:=by
 simp only[X,execOp,hx,Instr.sliceAt,Sem.run_bind,run_underlying ht,Result.andThen_ok,Instr.slice,hb,he.run_size,Sem.run_pure,GN]
section
variable {α :Type}[Enc α]{xs:List α}
theorem CL {t e:TypeId}{x lo:Operand}{a:Option Addr}{c bytes:Nat}{z:Value}{agg:Bool}{i:Nat}{kd:IntKind}(ht:P.underlying t=some (.slice e))(he:Ty P e (Enc.size α) bytes z agg)
  (hx:rd n ρ x= .slice a xs.length c) (hi:rd n ρ lo= .int kd (i:Int)) (h1:i≤xs.length):
  X P n ρ ⟨dst,.slice t x (some lo) none none,ty,pos,af,g⟩ w (.slice (GN a c i (Enc.size α)) (xs.drop i).length (c-i)) w:=by
 have hb:(Instr.sliceBounds true xs.length c (some (.int kd (i:Int))) none none).run P w= .ok (i,xs.length,c) w:=by simp[Instr.sliceBounds,Instr.sliceBound,asIntOf,h1]
 rw[List.length_drop]
 exact LC (lo:=some lo) (hi:=none) (mx:=none) ht he hx (by simpa[hi]using hb)
theorem Pb {t e:TypeId}{x lo hi:Operand}{a:Option Addr}{l c size bytes:Nat}{z:Value}{agg:Bool}{i j:Nat}{kd kd':IntKind}(ht:P.underlying t=some (.slice e))(he:Ty P e size bytes z agg)
  (hx:rd n ρ x= .slice a l c) (hlo:rd n ρ lo= .int kd (i:Int)) (hj:rd n ρ hi= .int kd' (j:Int)) (h1:i≤j) (h2:j≤c):
  X P n ρ ⟨dst,.slice t x (some lo) (some hi) none,ty,pos,af,g⟩ w (.slice (GN a c i size) (j-i) (c-i)) w:=by
 have hb:(Instr.sliceBounds true l c (some (.int kd (i:Int))) (some (.int kd' (j:Int))) none).run P w= .ok (i,j,c) w:=by simp[Instr.sliceBounds,Instr.sliceBound,asIntOf,h1,h2]
 exact LC (lo:=some lo) (hi:=some hi) (mx:=none) ht he hx (by simpa[hlo,hj]using hb)
theorem As.from {a:Option Addr}(h:As w a xs)(i m:Nat)(hm:xs.length≤m):As w (GN a m i (Enc.size α)) (xs.drop i):=by
 unfold GN
 split
 ·rename_i e
  exact .inl (List.drop_eq_nil_of_le Zo)
 ·rcases h with rfl|⟨b,o,rfl,hc⟩
  ·exact .inl Zs
  ·have:=As.drop (.inr ⟨b,o,rfl,hc⟩:As w (some ⟨b,o,none⟩) xs) i (xs.length-i) rfl
   rw[List.take_of_length_le Zs]at this
   simpa[Addr.add_lit]using this
theorem Af.take {T:TypeId}{a:Option Addr}{cap:Nat}(h:Af w T a cap xs)(m:Nat):Af w T a cap (xs.take m):=by
 refine⟨Aw _,?_⟩
 rcases h.cases with⟨rfl,rfl,rfl⟩|⟨g,cur,rfl,h1,h2,h3,h4,h5⟩
 ·exact .inl Zs
 ·refine .inr ⟨g,cap,cur,rfl,Nat.zero_le _,h1,?_,h3,h4,?_⟩
  ·have:=List.length_take_le m xs;have:=List.length_take_le' m xs;omega
  ·rw[F0,←h5,List.take_take]
   congr 1
   rw[List.length_take,Nat.min_def,Nat.min_def]
   split<;>split
   ·rfl
   ·rename_i h6 h7;exact absurd (Nat.mul_le_mul_right _ h6) h7
   ·rename_i h6 h7
    have:=Nat.mul_le_mul_right (Enc.size α) (Nat.le_of_not_le h6)
    omega
   ·rfl
end
end
section
variable {α :Type}[Enc α]
theorem flat_set : ∀ (xs : List α) (i : Nat) (x' : α), i < xs.length → AB (xs.set i x') = (AB xs).take (i * Enc.size α) ++ cellsOf x' ++ (AB xs).drop (i * Enc.size α + Enc.size α)
  | x :: xs, 0, x', _ => by
    rw [List.set_cons_zero, BC, BC, Nat.zero_mul, Nat.zero_add, List.take_zero, List.nil_append, ← Ax x, List.drop_left]
  | x :: xs, i + 1, x', h => by
    have hl := Ax x
    have e1 : (i + 1) * Enc.size α = (cellsOf x).length + i * Enc.size α := by rw [hl, Nat.succ_mul]; omega
    rw [List.set_cons_succ, BC, flat_set xs i x' (by simpa using h), BC, e1, List.take_length_add_append, Nat.add_assoc, List.drop_length_add_append]
    simp
theorem SM (xs:List α)(i:Nat)(x:α)(hx:xs[i]? =some x):((AB xs).drop (i*Enc.size α)).take (Enc.size α)=cellsOf x:=by
 obtain⟨hi,rfl⟩:=List.getElem?_eq_some_iff.1 hx
 apply List.ext_getElem?
 intro j
 rw[List.getElem?_take]
 by_cases hj:j<Enc.size α
 ·rw[if_pos hj,List.getElem?_drop]
  have hl:=Ax xs[i]
  rw[FF xs i hi j (cellsOf xs[i])[j] Zs]
  simp
 ·rw[if_neg hj,List.getElem?_eq_none (by rw[Ax];omega)]
variable {P :Program}{f:FuncId}{n:FN}{R:Ending→World→Prop}{k:List Item}{ρ:AV}{w:World}
variable {ty :TypeId}{pos:String}{af:Array Edge}{K:AV→World→Prop}
theorem Af.store {T : TypeId} {a : Option Addr} {cap : Nat} {xs : List α} {i off size : Nat} {x x' : α} {cs : List Value} {b o : Nat} (h : Af w T a cap xs) (ha : a = some ⟨b, o, none⟩) (hx : xs[i]? = some x)
    (hcs : cs.length = size) (hfit : off + size ≤ Enc.size α) (hx' : cellsOf x' = (cellsOf x).take off ++ cs ++ (cellsOf x).drop (off + size)) :
    o = 0 ∧ ∃ c : List Value, AA w b c T ∧ (i * Enc.size α + off) + size ≤ c.length ∧
      (∀ w', AA w' b (c.take (i * Enc.size α + off) ++ cs ++ c.drop (i * Enc.size α + off + size)) T → Af w' T a cap (xs.set i x')) := by
  obtain ⟨hi, hxi⟩ := List.getElem?_eq_some_iff.1 hx
  rcases h.cases with ⟨h1, _⟩ | ⟨g, cur, h1, h2, h3, h4, h5, h6⟩
  · rw [h1] at ha; cases ha
  · rw [h1] at ha
    simp only [Option.some.injEq, Addr.mk.injEq] at ha
    obtain ⟨rfl, rfl, _⟩ := ha
    subst h1
    have hmul : (i + 1) * Enc.size α ≤ xs.length * Enc.size α := Nat.mul_le_mul_right _ hi
    have hmul2 : xs.length * Enc.size α ≤ cap * Enc.size α := Nat.mul_le_mul_right _ h3
    rw [Nat.succ_mul] at hmul
    refine ⟨rfl, cur.toList, by simpa [AA] using h2, by simp only [Array.length_toList]; omega, fun w' hb => ⟨Aw _, .inr ⟨g, cap, _, by rw [List.length_set], Nat.zero_le _, hb, by rw [List.length_set]; exact h3, h4, ?_, ?_⟩⟩⟩
    · simp only [List.size_toArray, List.length_append, List.length_take, List.length_drop, Array.length_toList, hcs]
      omega
    · rw [List.length_set, flat_set xs i x' hi, hx', ← h6]
      generalize hS : Enc.size α = S at *
      generalize hL : xs.length * S = L at *
      have hxc : (cur.toList.drop (i * S)).take S = cellsOf x := by
        have := SM xs i x hx
        rw [hS, ← h6, List.drop_take, List.take_take, Nat.min_eq_left Zo] at this
        exact this
      generalize hM : i * S = M at *
      rw [← hxc]
      apply List.ext_getElem?
      intro j
      have hcl : cur.toList.length = cap * S := by simpa using h5
      simp only [List.getElem?_take, List.getElem?_append, List.length_append, List.length_take, List.length_drop, List.getElem?_drop, hcs, hcl]
      by_cases hj : j < L
      · simp only [hj, if_true]
        by_cases h7 : j < M
        · simp only [show j < min (M + off) (cap * S) from by omega, show j < min (M + off) (cap * S) + size from by omega, show j < min M (min L (cap * S)) from by omega,
            show j < min M (min L (cap * S)) + (min off (min S (cap * S - M)) + size + (min S (cap * S - M) - (off + size))) from by omega, if_true, h7, show j < M + off from by omega]
        · obtain ⟨q, rfl⟩ : ∃ q, j = M + q := ⟨j - M, by omega⟩
          simp only [show ¬ (M + q < min M (min L (cap * S))) from by omega, if_false, show M + q - min M (min L (cap * S)) = q from by omega]
          by_cases h8 : q < S
          · simp only [show M + q < min M (min L (cap * S)) + (min off (min S (cap * S - M)) + size + (min S (cap * S - M) - (off + size))) from by omega, if_true]
            by_cases h9 : q < off
            · simp only [show M + q < min (M + off) (cap * S) from by omega, show M + q < min (M + off) (cap * S) + size from by omega, show M + q < M + off from by omega,
                show q < min off (min S (cap * S - M)) from by omega, show q < min off (min S (cap * S - M)) + size from by omega, if_true, h9, h8]
            · by_cases h10 : q < off + size
              · simp only [show ¬ (M + q < min (M + off) (cap * S)) from by omega, show M + q < min (M + off) (cap * S) + size from by omega,
                  show ¬ (q < min off (min S (cap * S - M))) from by omega, show q < min off (min S (cap * S - M)) + size from by omega, if_true, if_false]
                congr 1
                omega
              · simp only [show ¬ (M + q < min (M + off) (cap * S) + size) from by omega, show ¬ (q < min off (min S (cap * S - M)) + size) from by omega, if_false,
                  show off + size + (q - (min off (min S (cap * S - M)) + size)) < S from by omega, if_true]
                congr 1
                omega
          · simp only [show ¬ (M + q < min M (min L (cap * S)) + (min off (min S (cap * S - M)) + size + (min S (cap * S - M) - (off + size)))) from by omega, if_false,
              show ¬ (M + q < min (M + off) (cap * S) + size) from by omega]
            rw [if_pos Zo]
            congr 1
            omega
      · simp only [hj, if_false]
        rw [if_neg Zo, if_neg Zo]
theorem Av.storeEl {t:TypeId}{x y:Operand}{b o o' size bytes:Nat}{z v:Value}{agg:Bool}{T:TypeId}{a:Option Addr}{cap:Nat}{xs:List α}{i off:Nat}{e:α}(e':α)
  (he:Ty P t size bytes z agg) (hx:rd n ρ x= .pointer (some ⟨b,o',none⟩)) (hy:rd n ρ y=v) (hs:v.cells.size=size) (h1:∀u∈v.cells.toList,u.oneCell'=true)
  (hown:Af w T a cap xs) (ha:a=some ⟨b,o,none⟩) (hi:xs[i]? =some e) (ho':o'=o+i*Enc.size α+off) (hfit:off+size≤Enc.size α)
  (hc:cellsOf e'=(cellsOf e).take off++v.cells.toList++(cellsOf e).drop (off+size))
  (h:∀w',Af w' T a cap (xs.set i e')→Ah (own a) w w'→K ρ w'):
  Av P f n R k ⟨none,.store t x y,ty,pos,af,none⟩ ρ w K:=by
 obtain⟨rfl,c,hb,hle,hset⟩:=hown.store ha hi (cs:=v.cells.toList) (size:=size) (off:=off) (by simpa using hs) hfit hc
 rw[Nat.zero_add]at ho'
 subst ho'
 refine Av.store he hx hy hs h1 hb hle fun w' hb' hK=>h w' (hset w' hb') (hK.mono fun x _ hx=> ?_)
 simp only[one]at hx
 subst hx;subst ha
 exact Ch.2 rfl
theorem Av.clearTail {t e:TypeId}{x:Operand}{bytes:Nat}{z:Value}{agg:Bool}{a:Option Addr}{cap m c':Nat}{xs:List α}{dst:Option Nat}
  (ht:P.underlying t=some (.slice e)) (he:Ty P e (Enc.size α) bytes z agg) (hzs:z.cells.size=Enc.size α) (hz1:∀u∈z.cells.toList,u.oneCell'=true)
  (hx:rd n ρ x= .slice (GN a cap xs.length (Enc.size α)) m c') (hown:Af w e a cap xs) (hm:xs.length+m≤cap)
  (h:∀w',Af w' e a cap xs→Ah (own a) w w'→K (A4 ρ dst (.tuple #[])) w'):
  Av P f n R k ⟨dst,.call {callee:= .builtin .clear,args:=#[x],argTypes:=#[t]},ty,pos,af,none⟩ ρ w K:=by
 have hnone:∀(y:Option Addr) (m':Nat),(y=none∨m'=0)→(Builtin.clear_ #[t] ty #[.slice y m' c']).run P w= .ok (.tuple #[]) w:=by
  intro y m' hy
  rcases hy with rfl|rfl
  ·simp[Builtin.clear_,run_underlying ht]
  ·cases y<;>simp[Builtin.clear_,run_underlying ht]
 rcases hown.cases with⟨rfl,rfl,rfl⟩|⟨g,cur,rfl,h1,h2,h3,h4,h5⟩
 ·refine Av.val (v:= .tuple #[]) (w':=w) ?_ (h w hown (Ah.refl _ w))
  have hm0:m=0:=by simp at hm;exact hm
  subst hm0
  simp only[execOp,resolve,invoke,builtin,Sem.run_bind,Sem.run_pure,Result.andThen_ok,List.map_toArray,List.map_cons,List.map_nil,hx,hnone _ 0 (.inr rfl)]
 ·by_cases hm0:m=0
  ·subst hm0
   refine Av.val (v:= .tuple #[]) (w':=w) ?_ (h w hown (Ah.refl _ w))
   simp only[execOp,resolve,invoke,builtin,Sem.run_bind,Sem.run_pure,Result.andThen_ok,List.map_toArray,List.map_cons,List.map_nil,hx,hnone _ 0 (.inr rfl)]
  ·have hadv:GN (some ⟨g,0,none⟩) cap xs.length (Enc.size α)=some ⟨g,xs.length*Enc.size α,none⟩:=by
    unfold GN
    rw[if_neg Zo]
    simp[Addr.add_lit]
   rw[hadv]at hx
   have hlen:(Builtin.zeroCells z.cells m).toList.length=m*Enc.size α:=by rw[Array.length_toList,size_zeroCells,hzs]
   have hle:(xs.length+m)*Enc.size α≤cap*Enc.size α:=Nat.mul_le_mul_right _ hm
   rw[Nat.add_mul]at hle
   have hone:∀u∈(Builtin.zeroCells z.cells m).toList,u.oneCell'=true:=by
    intro u hu
    simp only[Builtin.zeroCells,Array.toList_map,List.mem_map]at hu
    obtain⟨j,_,rfl⟩:=hu
    have hpos:=Enc.pos (α:=α)
    have hj:j%z.cells.size<z.cells.size:=Nat.mod_lt _ Zo
    rw[getElem!_pos z.cells _ hj]
    exact hz1 _ Zs
   have hst:=run_storeCells_at P g (xs.length*Enc.size α) e (Builtin.zeroCells z.cells m).toList 0 cur w h1 (by rw[hlen];omega) hone
   simp only[Nat.add_zero]at hst
   obtain⟨q,rfl⟩:∃q,m=q+1:=⟨m-1,by omega⟩
   refine Av.val (v:= .tuple #[]) (w':=w.setRow g (cur.toList.take (xs.length*Enc.size α)++(Builtin.zeroCells z.cells (q+1)).toList++cur.toList.drop (xs.length*Enc.size α+(Builtin.zeroCells z.cells (q+1)).toList.length)).toArray) ?_ (h _ ?_ (Ah.mono (Ah.setRow w g _) fun x _ hx=>by simp only[one]at hx;subst hx;exact Ch.2 rfl))
   ·simp only[execOp,resolve,invoke,builtin,Sem.run_bind,Sem.run_pure,Result.andThen_ok,List.map_toArray,List.map_cons,List.map_nil,hx]
    simp[Builtin.clear_,run_underlying ht,he.run_zero]
    rw[hst]
    simp only[Result.andThen_ok,List.append_assoc,Array.length_toList]
   ·refine⟨Aw _,.inr ⟨g,cap,_,rfl,Nat.zero_le _,setRow_heap w g cur _ e _ h1,h2,h3,?_,?_⟩⟩
    ·simp only[List.size_toArray,List.length_append,List.length_take,List.length_drop,Array.length_toList]at hlen⊢
     omega
    ·rw[←h5]
     simp only[List.append_assoc]
     rw[List.take_append_of_le_length Zi,List.take_take,Nat.min_self]
end
instance : Enc UInt8 where
 val b:= .int .u8 b.toNat
 size:=1
 agg:=false
 shape _:=⟨fun h=>(by cases h),fun _=>⟨rfl,rfl⟩⟩
 plain _ v hv:=by simp[Value.cells]at hv;subst hv;rfl
 pos:=by decide
theorem IH (l:List UInt8):AB l=l.map fun b=>Value.int .u8 (b.toNat:Int):=by
 induction l with
 |nil=>rfl
 |cons x l ih=>rw[BC,ih];rfl
section
variable {P :Program}{f:FuncId}{n:FN}{R:Ending→World→Prop}{k:List Item}{ρ:AV}{w:World}
variable {dst :Option Nat}{ty:TypeId}{pos:String}{af:Array Edge}{K:AV→World→Prop}
theorem Av.bytes {s d e : TypeId} {x : Operand} {str : ByteArray} {u : TypeDesc} (hs : P.underlying s = some u) (hd : P.underlying d = some (.slice e)) (he : P.underlying e = some (.int .u8)) (hx : rd n ρ x = .string str)
    (h : ∀ b c w', w.heap.size ≤ b → As w' (some ⟨b, 0, none⟩) str.data.toList → Aq w w' → K (A4 ρ dst (.slice (some ⟨b, 0, none⟩) str.data.toList.length c)) w') :
    Av P f n R k ⟨dst, .convert s d x, ty, pos, af, none⟩ ρ w K := by
  have hr := Lib.run_convert_string_bytes (P := P) w s d e str hs hd he
  refine Av.val (v := .slice (some ⟨w.heap.size, 0, none⟩) str.data.toList.length (grownCap w str.size 0 e)) (w' := Lib.bytesWorld w e str) ?_ (h _ _ _ (Nat.le_refl _) ?_ ?_)
  · have e1 : str.data.toList.length = str.size := by simp
    simp only [execOp, hx, Sem.run_bind, hr, Result.andThen_ok, Sem.run_pure, e1]
  · refine .inr ⟨w.heap.size, 0, rfl, Lib.bytesCells w e str, e, _, Lib.bytesWorld_at_new w e str, fun j v hv => ?_⟩
    rw [IH, List.getElem?_map] at hv
    rw [Nat.zero_add]
    cases hj : str.data.toList[j]? with
    | none => rw [hj] at hv; cases hv
    | some c =>
      rw [hj] at hv
      have hlt : j < str.data.size := by have := (List.getElem?_eq_some_iff.1 hj).1; simpa using this
      simp only [Lib.bytesCells, Array.getElem?_append, Array.size_map, hlt, if_true, Array.getElem?_map]
      rw [← hv]
      simpa using congrArg (Option.map fun b : UInt8 => Value.int .u8 (b.toNat : Int)) (show str.data[j]? = some c by simpa using hj)
  · exact ⟨rfl, rfl, rfl, by rw [Lib.bytesWorld_size]; omega, fun j hj _ => Lib.bytesWorld_at_old w e str j hj⟩
end
section
variable {P :Program}{f:FuncId}{n:FN}{R:Ending→World→Prop}{k:List Item}{ops:Array Oper}{ρ:AV}{w:World}
variable {dst :Option Nat}{op:Op}{ty:TypeId}{pos:String}{af:Array Edge}{S:World→Prop}{U:List Nat}{fuel:Nat}{listed:Array Bool}{g:Option (Nat×Bool)}
def CJ (P:Program)(f:FuncId)(n:FN)(R:Ending→World→Prop)(k:List Item)(ops:Array Oper)(S:World→Prop)(U:List Nat)(fuel:Nat)(listed:Array Bool)(i:Nat)(ρ:AV)(w:World):Prop:=
 wpOp P ops (H6 P f n R k) i (fun a' w'=>∃ρ',a'=BN n ρ'∧(BP U (listed.setIfInBounds i true)=true∨S w')∧RT P f n R k ops S U fuel (listed.setIfInBounds i true) ρ' w') (BN n ρ) w
theorem RT.fork2 (i j:Nat)(hr:Region.ready .any ops listed=[i,j])(h1:CJ P f n R k ops S U fuel listed i ρ w)(h2:CJ P f n R k ops S U fuel listed j ρ w):RT P f n R k ops S U (fuel+1) listed ρ w:=by
 refine⟨fun h0=>(by rw[hr]at h0;cases h0),fun q hq=> ?_⟩
 rw[hr]at hq
 simp only[List.mem_cons,List.not_mem_nil,or_false]at hq
 rcases hq with rfl|rfl
 ·refine wpOp_mono (fun a' w' h'=> ?_) h1
  obtain⟨ρ',rfl,h3,h4⟩:=h'
  exact⟨h3,h4⟩
 ·refine wpOp_mono (fun a' w' h'=> ?_) h2
  obtain⟨ρ',rfl,h3,h4⟩:=h'
  exact⟨h3,h4⟩
theorem CJ.st {i:Nat}(hi:ops[i]? =some ⟨dst,op,ty,pos,af,none⟩)
  (h:Av P f n R k ⟨dst,op,ty,pos,af,none⟩ ρ w (fun ρ' w'=>(BP U (listed.setIfInBounds i true)=true∨S w')∧RT P f n R k ops S U fuel (listed.setIfInBounds i true) ρ' w')):CJ P f n R k ops S U fuel listed i ρ w:=by
 unfold CJ wpOp
 simp only[hi,Region.wanted,if_true]
 exact .inl h
theorem CJ.gst {i:Nat}(hi:ops[i]? =some ⟨dst,op,ty,pos,af,g⟩)(hw:Region.wanted ⟨dst,op,ty,pos,af,g⟩ (yielded ops (BN n ρ).tmps)=true)
  (h:Av P f n R k ⟨dst,op,ty,pos,af,none⟩ ρ w (fun ρ' w'=>(BP U (listed.setIfInBounds i true)=true∨S w')∧RT P f n R k ops S U fuel (listed.setIfInBounds i true) ρ' w')):CJ P f n R k ops S U fuel listed i ρ w:=by
 unfold CJ wpOp
 simp only[hi,hw,if_true]
 exact .inl h
theorem RT.gst (i:Nat)(hi:ops[i]? =some ⟨dst,op,ty,pos,af,g⟩)(hr:Region.ready .any ops listed=[i])(hw:Region.wanted ⟨dst,op,ty,pos,af,g⟩ (yielded ops (BN n ρ).tmps)=true)
  (h:Av P f n R k ⟨dst,op,ty,pos,af,none⟩ ρ w (fun ρ' w'=>(BP U (listed.setIfInBounds i true)=true∨S w')∧RT P f n R k ops S U fuel (listed.setIfInBounds i true) ρ' w')):RT P f n R k ops S U (fuel+1) listed ρ w:=
 RT.one i hi hr (CJ.gst hi hw h)
variable {o :Oper}{j t:Nat}{oj:Oper}
theorem LD (hg:o.guard=some (j,true))(hj:ops[j]? =some oj)(hd:oj.dst=some t)(hb:rd n ρ (.tmp t)= .bool true):Region.wanted o (yielded ops (BN n ρ).tmps)=true:=Bg hg hj hd hb
theorem C1 (hg:o.guard=some (j,true))(hj:ops[j]? =some oj)(hd:oj.dst=some t)(hb:rd n ρ (.tmp t)= .bool false):Region.wanted o (yielded ops (BN n ρ).tmps)=false:=Bg hg hj hd hb
theorem LE (hg:o.guard=some (j,false))(hj:ops[j]? =some oj)(hd:oj.dst=some t)(hb:rd n ρ (.tmp t)= .bool false):Region.wanted o (yielded ops (BN n ρ).tmps)=true:=Bl hg hj hd hb
theorem C2 (hg:o.guard=some (j,false))(hj:ops[j]? =some oj)(hd:oj.dst=some t)(hb:rd n ρ (.tmp t)= .bool true):Region.wanted o (yielded ops (BN n ρ).tmps)=false:=Bl hg hj hd hb
theorem RL.gst {rest:List Oper}(hw:Region.wanted ⟨dst,op,ty,pos,af,g⟩ (yielded ops (BN n ρ).tmps)=true)(h:Av P f n R k ⟨dst,op,ty,pos,af,none⟩ ρ w (RL P f n R k ops rest)):RL P f n R k ops (⟨dst,op,ty,pos,af,g⟩::rest) ρ w:=
 RL.guardT hw (RL.st rfl h)
end
section
variable {P :Program}{n:FN}{ρ:AV}{w w':World}{o:Oper}{b:Bool}
theorem Cq (h:X P n ρ o w (.bool b) w')(hb:b=true):X P n ρ o w (.bool true) w':=by subst hb;exact h
theorem CW (h:X P n ρ o w (.bool b) w')(hb:b=false):X P n ρ o w (.bool false) w':=by subst hb;exact h
theorem At {kd:IntKind}{a c:Int}(h:X P n ρ o w (.int kd a) w')(hb:a=c):X P n ρ o w (.int kd c) w':=by subst hb;exact h
theorem Dh {c x y:Operand}{e:Bool}{dst:Option Nat}{ty:TypeId}{pos:String}{af:Array Edge}{g:Option (Nat×Bool)}(hc:rd n ρ c= .bool false)(hx:rd n ρ x= .bool true)(hy:rd n ρ y= .bool e):
  X P n ρ ⟨dst,.pick c x y,ty,pos,af,g⟩ w (.bool e) w:=CI (b:=false) hc hx hy
theorem Bv {c x y:Operand}{e:Bool}{dst:Option Nat}{ty:TypeId}{pos:String}{af:Array Edge}{g:Option (Nat×Bool)}(hc:rd n ρ c= .bool true)(hx:rd n ρ x= .bool e)(hy:rd n ρ y= .bool false):
  X P n ρ ⟨dst,.pick c x y,ty,pos,af,g⟩ w (.bool e) w:=AJ (b:=true) hc hx hy
theorem AA.at {w:World}{b i:Nat}{c:List Value}{T:TypeId}{v:Value}(h:AA w b c T)(hv:c[i]? =some v):Cl w b i [v]:=by have:=h.cl.field (i:=i) hv;rwa[Nat.zero_add]at this
end
section
variable {P :Program}{n:FN}{ρ:AV}{w:World}{dst:Option Nat}{ty:TypeId}{pos:String}{af:Array Edge}{g:Option (Nat×Bool)}
theorem F1 {t:TypeId}{x ix:Operand}{s:ByteArray}{kd:IntKind}{i:Nat}{c:UInt8}(ht:P.underlying t=some .string)(hx:rd n ρ x= .string s)(hi:rd n ρ ix= .int kd (i:Int))(hc:s.data.toList[i]? =some c):
  X P n ρ ⟨dst,.index t x ix,ty,pos,af,g⟩ w (.int .u8 (c.toNat:Int)) w:=by
 obtain⟨h1,rfl⟩:=List.getElem?_eq_some_iff.1 hc
 have h2:i<s.size:=by simpa using h1
 have:=Qq (P:=P) (w:=w) (dst:=dst) (ty:=ty) (pos:=pos) (af:=af) (g:=g) ht hx hi Zo (by simpa using h2)
 have e:(s[(i:Int).toNat]'(by simpa using h2))=s.data.toList[i]:=by simp;rfl
 rwa[e]at this
theorem Vx {s:Operand}{a:Option Addr}{m m' c:Nat}(hr:rd n ρ s= .slice a m c)(h:m'=m):rd n ρ s= .slice a m' c:=h▸hr
theorem T6 (s:ByteArray){i:Nat}(h:i<s.size):∃c:UInt8,s.data.toList[i]? =some c:=⟨s.data.toList[i]'(by simpa using h),by simp⟩
theorem ED (s:ByteArray):s.data.toList.length=s.size:=by simp
theorem Uz (s:ByteArray):decide (s=⟨#[]⟩)=decide (s.size=0):=by
 congr 1
 rw[eq_iff_iff]
 constructor
 ·rintro rfl;rfl
 ·intro h
  cases s with|mk d=>have h':d.size=0:=h;rw[Array.eq_empty_of_size_eq_zero h']
end
section
variable {P :Program}{n:FN}{ρ:AV}{w:World}{dst:Option Nat}{ty:TypeId}{pos:String}{af:Array Edge}
theorem pnil :([]:List (Nat×Operand)).map (fun(i,x)=>(i,rd n ρ x))=[]:=rfl
theorem Oa {i:Nat}{x:Operand}{v:Value}{l:List (Nat×Operand)}{vs:List (Nat×Value)}(h:rd n ρ x=v)(t:l.map (fun(i,x)=>(i,rd n ρ x))=vs):((i,x)::l).map (fun(i,x)=>(i,rd n ρ x))=(i,v)::vs:=by
 subst h;subst t;rfl
theorem LF {t:TypeId}{parts:List (Nat×Operand)}{vals:List (Nat×Value)}{cells:Array Value}{g:Option (Nat×Bool)}(hv:parts.map (fun(i,x)=>(i,rd n ρ x))=vals)(hb:P.built t vals=some cells):
  X P n ρ ⟨dst,.build t parts.toArray,ty,pos,af,g⟩ w (.agg cells) w:=AC (by rw[hv];exact hb)
end
end Go.Proofs.YtjkaicjmfgekjaaGreatDoor
