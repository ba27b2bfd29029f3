/-
  Plain
-/
set_option linter.all false
namespace Go.Proofs.YtjkaicjmfgekjaaGreatDoor
theorem br :(∀a b:Bool,((a&&b)=true)=(a=true∧b=true))∧(∀a b:Bool,((a||b)=true)=(a=true∨b=true))∧(∀a b:Bool,((a&&b)=false)=(a=false∨b=false))∧
  (∀a b:Bool,((a||b)=false)=(a=false∧b=false))∧(∀(p:Prop) [Decidable p],(decide p=true)=p)∧(∀(p:Prop) [Decidable p],(decide p=false)=¬p)∧
  (∀a b:Int,((a==b)=true)=(a=b))∧(∀a b:Int,((a==b)=false)=¬(a=b))∧(∀a b:Int,((a !=b)=true)=¬(a=b))∧(∀a b:Int,((a !=b)=false)=(a=b))∧
  (∀b:Bool,((!b)=true)=(b=false))∧(∀b:Bool,((!b)=false)=(b=true))∧(∀a b:Int,(¬a<b)=(b≤a))∧(∀a b:Int,(¬a≤b)=(b<a))∧
  (∀a b:Bool,((a==b)=true)=(a=b))∧(∀a b:Bool,((a==b)=false)=¬(a=b)):=by
 refine⟨?_,?_,?_,?_,?_,?_,?_,?_,?_,?_,?_,?_,?_,?_,?_,?_⟩
 ·intro a b;cases a<;>cases b<;>simp
 ·intro a b;cases a<;>cases b<;>simp
 ·intro a b;cases a<;>cases b<;>simp
 ·intro a b;cases a<;>cases b<;>simp
 ·intro p _;simp
 ·intro p _;simp
 ·intro a b;simp
 ·intro a b;simp
 ·intro a b;simp
 ·intro a b;simp
 ·intro b;cases b<;>simp
 ·intro b;cases b<;>simp
 ·intro a b;apply propext;omega
 ·intro a b;apply propext;omega
 ·intro a b;simp
 ·intro a b;simp
theorem lr :(∀(α:Type) (l r:List α),(l++r).length=l.length+r.length)∧(∀(α:Type) (x:α) (l:List α),(x::l).length=l.length+1)∧(∀(α:Type),([]:List α).length=0):=⟨fun _ _ _=>List.length_append,fun _ _ _=>rfl,fun _=>rfl⟩
def GL {α:Type}(p:α→Bool)(xs:List α)(i:Nat):Prop:=∀j x,j<i→xs[j]? =some x→p x=false
theorem GL.zero {α:Type}(p:α→Bool)(xs:List α):GL p xs 0:=fun _ _ h=>absurd h (Nat.not_lt_zero _)
theorem GL.step {α:Type}{p:α→Bool}{xs:List α}{i:Nat}{x:α}(h:GL p xs i)(hx:xs[i]? =some x)(hp:p x=false):GL p xs (i+1):=by
 intro j y hj hy
 by_cases e:j=i
 ·subst e;rw[hx]at hy;cases hy;exact hp
 ·exact h j y (by omega) hy
theorem MH {α:Type}{p:α→Bool}{xs:List α}{i:Nat}{x:α}(hx:xs[i]? =some x)(hp:p x=true)(hno:GL p xs i):xs.findIdx? p=some i:=by
 rw[List.findIdx?_eq_some_iff_getElem]
 obtain⟨h,rfl⟩:=List.getElem?_eq_some_iff.1 hx
 exact⟨h,hp,fun j hj=>by simpa using hno j _ hj (by simp[Nat.lt_trans hj h])⟩
theorem MI {α:Type}{p:α→Bool}{xs:List α}{i:Nat}(hno:GL p xs i)(hi:xs.length≤i):xs.findIdx? p=none:=by
 rw[List.findIdx?_eq_none_iff]
 intro x hx
 obtain⟨j,hj,rfl⟩:=List.getElem_of_mem hx
 exact hno j _ (by omega) (by simp[hj])
def F2 {α:Type}(p:α→Bool)(xs:List α):Int:=match xs.findIdx? p with|some i=>(i:Int)|none=> -1
theorem GT {α:Type}{p:α→Bool}{xs:List α}{i:Nat}{x:α}(hx:xs[i]? =some x)(hp:p x=true)(hno:GL p xs i):F2 p xs=(i:Int):=by
 rw[F2,MH hx hp hno]
theorem F3 {α:Type}{p:α→Bool}{xs:List α}{i:Nat}(hno:GL p xs i)(hi:xs.length≤i):F2 p xs= -1:=by
 rw[F2,MI hno hi]
theorem GU {α : Type} (p : α → Bool) (xs : List α) : decide (0 ≤ F2 p xs) = xs.any p := by
  unfold F2
  cases h : xs.findIdx? p with
  | none =>
    rw [List.findIdx?_eq_none_iff] at h
    have : xs.any p = false := by simp only [List.any_eq_false]; intro x hx; simpa using h x hx
    rw [this]; simp
  | some i =>
    rw [List.findIdx?_eq_some_iff_getElem] at h
    obtain ⟨hi, hp, _⟩ := h
    have : xs.any p = true := by simp only [List.any_eq_true]; exact ⟨xs[i], List.getElem_mem _, hp⟩
    rw [this]; simp
theorem BI {α:Type}{xs:List α}{i:Nat}{x:α}(hx:xs[i]? =some x):x∈xs:=List.mem_of_getElem? hx
theorem TG {α:Type}{p:α→Bool}{xs:List α}{i:Nat}{x:α}(hx:xs[i]? =some x)(hp:p x=true):xs.any p=true:=List.any_eq_true.2 ⟨x,BI hx,hp⟩
theorem TH {α:Type}{p:α→Bool}{xs:List α}{i:Nat}(hno:GL p xs i)(hi:xs.length≤i):xs.any p=false:=by
 rw[List.any_eq_false]
 intro x hx
 obtain⟨j,hj,rfl⟩:=List.getElem_of_mem hx
 rw[hno j _ (by omega) (by simp[hj])];simp
def ED {α:Type}(xs ys:List α)(i:Nat):Prop:=∀j,j<i→xs[j]? =ys[j]?
theorem ED.zero {α:Type}(xs ys:List α):ED xs ys 0:=fun _ h=>absurd h (Nat.not_lt_zero _)
theorem ED.step {α:Type}{xs ys:List α}{i:Nat}{x y:α}(h:ED xs ys i)(hx:xs[i]? =some x)(hy:ys[i]? =some y)(he:x=y):ED xs ys (i+1):=by
 intro j hj
 by_cases e:j=i
 ·subst e;rw[hx,hy,he]
 ·exact h j (by omega)
theorem ED.all {α:Type}{xs ys:List α}{i:Nat}(h:ED xs ys i)(hl:xs.length=ys.length)(hi:xs.length≤i):xs=ys:=by
 apply List.ext_getElem?
 intro j
 by_cases hj:j<i
 ·exact h j hj
 ·rw[List.getElem?_eq_none (by omega),List.getElem?_eq_none (by omega)]
theorem GV {α:Type}{xs ys:List α}{i:Nat}{x y:α}(hx:xs[i]? =some x)(hy:ys[i]? =some y)(h:¬x=y):¬xs=ys:=by
 intro e;subst e;rw[hx]at hy;cases hy;exact h rfl
end Go.Proofs.YtjkaicjmfgekjaaGreatDoor
