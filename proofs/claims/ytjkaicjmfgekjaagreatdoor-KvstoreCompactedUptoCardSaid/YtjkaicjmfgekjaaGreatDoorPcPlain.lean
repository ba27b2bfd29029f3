/-
  Plain
-/
set_option linter.all false
namespace Go.Proofs.YtjkaicjmfgekjaaGreatDoor
def br :(∀a b:Bool,((a&&b)=true)=(a=true/\b=true))/\(∀a b:Bool,((a||b)=true)=(a=true\/b=true))/\(∀a b:Bool,((a&&b)=false)=(a=false\/b=false))/\
  (∀a b:Bool,((a||b)=false)=(a=false/\b=false))/\(∀(p:Prop) [Decidable p],(decide p=true)=p)/\(∀(p:Prop) [Decidable p],(decide p=false)=¬p)/\
  (∀a b:Int,((a==b)=true)=(a=b))/\(∀a b:Int,((a==b)=false)=¬(a=b))/\(∀a b:Int,((a !=b)=true)=¬(a=b))/\(∀a b:Int,((a !=b)=false)=(a=b))/\
  (∀b:Bool,((!b)=true)=(b=false))/\(∀b:Bool,((!b)=false)=(b=true))/\(∀a b:Int,(¬a<b)=(b≤a))/\(∀a b:Int,(¬a≤b)=(b<a))/\
  (∀a b:Bool,((a==b)=true)=(a=b))/\(∀a b:Bool,((a==b)=false)=¬(a=b)):=by
 refine⟨?_,?_,?_,?_,?_,?_,?_,?_,?_,?_,?_,?_,?_,?_,?_,?_⟩
 ·intro a b;cases a<;>cases b<;>simp
 ·intro a b;cases a<;>cases b<;>simp
 ·intro a b;cases a<;>cases b<;>simp
 ·intro a b;cases a<;>cases b<;>simp
 ·intro p _;simp
 ·intro p _;simp
 ·intro a b;simp
 ·intro a b;simp
 ·intro a b;simp
 ·intro a b;simp
 ·intro b;cases b<;>simp
 ·intro b;cases b<;>simp
 ·intro a b;apply propext;omega
 ·intro a b;apply propext;omega
 ·intro a b;simp
 intro a b;simp
def lr :(∀(α:Type) (l r:List α),(l++r).length=l.length+r.length)/\(∀(α:Type) (x:α) (l:List α),(x::l).length=l.length+1)/\(∀(α:Type),([]:List α).length=0):=⟨λ_ _ _=>List.length_append,λ_ _ _=>rfl,λ_=>rfl⟩
def GS {α:Type}(p:α→Bool)(xs:List α)(i:Nat):Prop:=∀j x,j<i→xs[j]? =some x→p x=false
def GS.zero {α:Type}(p:α→Bool)(xs:List α):GS p xs 0:=λ_ _ h=>absurd h (Nat.not_lt_zero _)
def GS.step {α:Type}{p:α→Bool}{xs:List α}{i:Nat}{x:α}(h:GS p xs i)(hx:xs[i]? =some x)(hp:p x=false):GS p xs (i+1):=by
 intro j y hj hy;by_cases e:j=i
 ·subst e;rw[hx]at hy;cases hy;exact hp
 exact h j y (by omega) hy
def Nl {α:Type}{p:α→Bool}{xs:List α}{i:Nat}{x:α}(hx:xs[i]? =some x)(hp:p x=true)(hno:GS p xs i):xs.findIdx? p=some i:=by
 rw[List.findIdx?_eq_some_iff_getElem];obtain⟨h,rfl⟩:=List.getElem?_eq_some_iff.1 hx;exact⟨h,hp,λj hj=>by simpa using hno j _ hj (by simp[Nat.lt_trans hj h])⟩
def Nm {α:Type}{p:α→Bool}{xs:List α}{i:Nat}(hno:GS p xs i)(hi:xs.length≤i):xs.findIdx? p=none:=by
 rw[List.findIdx?_eq_none_iff];intro x hx;obtain⟨j,hj,rfl⟩:=List.getElem_of_mem hx;exact hno j _ (by omega) (by simp[hj])
def GM {α:Type}(p:α→Bool)(xs:List α):Int:=match xs.findIdx? p with|some i=>(i:Int)|none=> -1
def Ig {α:Type}{p:α→Bool}{xs:List α}{i:Nat}{x:α}(hx:xs[i]? =some x)(hp:p x=true)(hno:GS p xs i):GM p xs=(i:Int):=by
 rw[GM,Nl hx hp hno]
def GW {α:Type}{p:α→Bool}{xs:List α}{i:Nat}(hno:GS p xs i)(hi:xs.length≤i):GM p xs= -1:=by
 rw[GM,Nm hno hi]
def Ih {α : Type} (p : α → Bool) (xs : List α) : decide (0 ≤ GM p xs) = xs.any p := by
  unfold GM;cases h : xs.findIdx? p with
  | none =>
    rw [List.findIdx?_eq_none_iff] at h;have : xs.any p = false := by simp only [List.any_eq_false]; intro x hx; simpa using h x hx
    rw [this]; simp
  | some i =>
    rw [List.findIdx?_eq_some_iff_getElem] at h;obtain ⟨hi, hp, _⟩ := h;have : xs.any p = true := by simp only [List.any_eq_true]; exact ⟨xs[i], List.getElem_mem _, hp⟩
    rw [this]; simp
def BH {α:Type}{xs:List α}{i:Nat}{x:α}(hx:xs[i]? =some x):x∈xs:=List.mem_of_getElem? hx
def Uh {α:Type}{p:α→Bool}{xs:List α}{i:Nat}{x:α}(hx:xs[i]? =some x)(hp:p x=true):xs.any p=true:=List.any_eq_true.2 ⟨x,BH hx,hp⟩
def Ui {α:Type}{p:α→Bool}{xs:List α}{i:Nat}(hno:GS p xs i)(hi:xs.length≤i):xs.any p=false:=by
 rw[List.any_eq_false];intro x hx;obtain⟨j,hj,rfl⟩:=List.getElem_of_mem hx;rw[hno j _ (by omega) (by simp[hj])];simp
def EX {α:Type}(xs ys:List α)(i:Nat):Prop:=∀j,j<i→xs[j]? =ys[j]?
def EX.zero {α:Type}(xs ys:List α):EX xs ys 0:=λ_ h=>absurd h (Nat.not_lt_zero _)
def EX.step {α:Type}{xs ys:List α}{i:Nat}{x y:α}(h:EX xs ys i)(hx:xs[i]? =some x)(hy:ys[i]? =some y)(he:x=y):EX xs ys (i+1):=by
 intro j hj;by_cases e:j=i
 ·subst e;rw[hx,hy,he]
 exact h j (by omega)
def EX.all {α:Type}{xs ys:List α}{i:Nat}(h:EX xs ys i)(hl:xs.length=ys.length)(hi:xs.length≤i):xs=ys:=by
 apply List.ext_getElem?;intro j;by_cases hj:j<i
 ·exact h j hj
 rw[List.getElem?_eq_none (by omega),List.getElem?_eq_none (by omega)]
def GX {α:Type}{xs ys:List α}{i:Nat}{x y:α}(hx:xs[i]? =some x)(hy:ys[i]? =some y)(h:¬x=y):¬xs=ys:=by
 intro e;subst e;rw[hx]at hy;cases hy;exact h rfl
end Go.Proofs.YtjkaicjmfgekjaaGreatDoor
