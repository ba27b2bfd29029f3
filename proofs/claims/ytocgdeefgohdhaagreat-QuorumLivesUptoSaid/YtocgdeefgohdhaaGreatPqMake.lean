/-
  Make
-/
import Derived.Test.YtocgdeefgohdhaaGreatPqMore
import Derived.Laws.MakeOwn
set_option linter.all false
namespace Go.Proofs.YtocgdeefgohdhaaGreat
theorem Al.seqJ {P:Program}{f:FuncId}{n:FN}{R:Ending→World→Prop}{k:List Item}{ρ:A5}{w:World}{a b:Code}(I:A5→World→Prop)(h2:∀ρ w,I ρ w→Al P f n R (.code b::k) ρ w)
  (h1:(∀ρ w,I ρ w→Al P f n R (.code b::k) ρ w)→Al P f n R (.code a:: .code b::k) ρ w):Al P f n R (.code (.seq a b)::k) ρ w:=Al.seq (h1 h2)
theorem No {α:Type}[Enc α]{z:Array Value}{zs:α}(hz:z.toList=cellsOf zs)(n:Nat):madeCells z (n*Enc.size α)=(AL (List.replicate n zs)).toArray:=by
 have hk:=Enc.pos (α:=α)
 have hzs:z.size=Enc.size α:=by rw[←Array.length_toList,hz];exact AB _
 apply Array.ext
 ·rw[size_madeCells];simp[AF]
 ·intro j h1 h2
  rw[size_madeCells]at h1
  have hd:j/Enc.size α<n:=Nat.div_lt_of_lt_mul (by rw[Nat.mul_comm];exact h1)
  have hm:j%Enc.size α<Enc.size α:=Nat.mod_lt _ hk
  have hl:(cellsOf zs).length=Enc.size α:=AB _
  have h:=EK (List.replicate n zs) (j/Enc.size α) (by simpa using hd) (j%Enc.size α) ((cellsOf zs)[j%Enc.size α]'(by omega)) (by rw[List.getElem_replicate];exact List.getElem?_eq_getElem Zo)
  rw[Nat.div_add_mod' j _]at h
  have e1:(AL (List.replicate n zs)).toArray[j]=(cellsOf zs)[j%Enc.size α]'(by omega):=by
   have:=List.getElem?_eq_getElem (l:=AL (List.replicate n zs)) (by simpa using h2)
   rw[h]at this
   simpa using(Option.some.inj this).symm
  rw[e1]
  simp only[madeCells,Array.getElem_map,Array.getElem_range,hzs]
  rw[getElem!_pos z (j%Enc.size α) Zo,←Array.getElem_toList]
  simp only[hz]
section
variable {P :Program}{f:FuncId}{n:FN}{R:Ending→World→Prop}{k:List Item}{ρ:A5}{w:World}
variable {dst :Option Nat}{ty:TypeId}{pos:String}{af:Array Edge}{α:Type}[Enc α]{K:A5→World→Prop}
theorem AD.makeN {t e:TypeId}{x y:Operand}{bytes:Nat}{z:Value}{agg:Bool}{kd kd2:IntKind}{c:Nat}(zs:α)(ht:P.underlying t=some (.slice e))(he:Ty P e (Enc.size α) bytes z agg)(hz:z.cells.toList=cellsOf zs)
  (hx:rd n ρ x= .int kd (c:Int)) (hy:rd n ρ y= .int kd2 (c:Int)) (hb:bytes≤16384) (hc:c≤4294967296)
  (h:∀b w',w.heap.size≤b→Ag w' e (some ⟨b,0,none⟩) c (List.replicate c zs)→As w w'→K (Bo ρ dst (.slice (some ⟨b,0,none⟩) c c)) w'):
  AD P f n R k ⟨dst,.makeSlice t x y,ty,pos,af,none⟩ ρ w K:=by
 obtain⟨i,hi,hzi,hs,hby⟩:=he.info
 have hbn:bytes*c≤16384*4294967296:=Nat.mul_le_mul hb hc
 have hb3:(bytes:Int)*(c:Int)≤281474976710656:=by rw[←Int.natCast_mul];omega
 have hr:=run_make (P:=P) w t e i z ht hi hzi kd kd2 c c (Int.natCast_nonneg _) (Int.le_refl _) (by rw[hby];exact hb3) Zo
 rw[hs,Int.toNat_natCast,No hz]at hr
 have ho:=H0 w e (List.replicate c zs) (by simp only[List.length_replicate,maxLen];omega)
 rw[List.length_replicate]at ho
 refine AD.val (v:= .slice (some ⟨w.heap.size,0,none⟩) c c) (w':={w with heap:=w.heap.push (.cells (AL (List.replicate c zs)).toArray e)}) ?_ (h _ _ (Nat.le_refl _) ho (As.push w _))
 simp only[execOp,Sem.run_bind,hx,hy,hr,Result.andThen_ok,Sem.run_pure]
 rfl
end
end Go.Proofs.YtocgdeefgohdhaaGreat
