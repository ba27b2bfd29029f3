/-
  Make
-/
import Derived.Test.YtocgdeefgohdhaaGreatPkMore
import Derived.Laws.MakeOwn
set_option linter.all false
namespace Go.Proofs.YtocgdeefgohdhaaGreat
theorem Run.seqJ {P:Program}{f:FuncId}{n:FN}{R:Ending→World→Prop}{k:List Item}{ρ:Regs}{w:World}{a b:Code}(I:Regs→World→Prop)(h2:∀ρ w,I ρ w→Run P f n R (.code b::k) ρ w)
  (h1:(∀ρ w,I ρ w→Run P f n R (.code b::k) ρ w)→Run P f n R (.code a:: .code b::k) ρ w):Run P f n R (.code (.seq a b)::k) ρ w:=Run.seq (h1 h2)
theorem made_flat {α:Type}[Enc α]{z:Array Value}{zs:α}(hz:z.toList=cellsOf zs)(n:Nat):madeCells z (n*Enc.size α)=(flat (List.replicate n zs)).toArray:=by
 have hk:=Enc.pos (α:=α)
 have hzs:z.size=Enc.size α:=by rw[←Array.length_toList,hz];exact length_cellsOf _
 apply Array.ext
 ·rw[size_madeCells];simp[length_flat]
 ·intro j h1 h2
  rw[size_madeCells]at h1
  have hd:j/Enc.size α<n:=Nat.div_lt_of_lt_mul (by rw[Nat.mul_comm];exact h1)
  have hm:j%Enc.size α<Enc.size α:=Nat.mod_lt _ hk
  have hl:(cellsOf zs).length=Enc.size α:=length_cellsOf _
  have h:=flat_get (List.replicate n zs) (j/Enc.size α) (by simpa using hd) (j%Enc.size α) ((cellsOf zs)[j%Enc.size α]'(by omega)) (by rw[List.getElem_replicate];exact List.getElem?_eq_getElem (by omega))
  rw[Nat.div_add_mod' j _]at h
  have e1:(flat (List.replicate n zs)).toArray[j]=(cellsOf zs)[j%Enc.size α]'(by omega):=by
   have:=List.getElem?_eq_getElem (l:=flat (List.replicate n zs)) (by simpa using h2)
   rw[h]at this
   simpa using(Option.some.inj this).symm
  rw[e1]
  simp only[madeCells,Array.getElem_map,Array.getElem_range,hzs]
  rw[getElem!_pos z (j%Enc.size α) (by omega),←Array.getElem_toList]
  simp only[hz]
section
variable {P :Program}{f:FuncId}{n:FN}{R:Ending→World→Prop}{k:List Item}{ρ:Regs}{w:World}
variable {dst :Option Nat}{ty:TypeId}{pos:String}{af:Array Edge}{α:Type}[Enc α]{K:Regs→World→Prop}
theorem St1.makeN {t e:TypeId}{x y:Operand}{bytes:Nat}{z:Value}{agg:Bool}{kd kd2:IntKind}{c:Nat}(zs:α)(ht:P.underlying t=some (.slice e))(he:Ty P e (Enc.size α) bytes z agg)(hz:z.cells.toList=cellsOf zs)
  (hx:rd n ρ x= .int kd (c:Int)) (hy:rd n ρ y= .int kd2 (c:Int)) (hb:bytes≤16384) (hc:c≤4294967296)
  (h:∀b w',w.heap.size≤b→OwnSl w' e (some ⟨b,0,none⟩) c (List.replicate c zs)→Ext w w'→K (updo ρ dst (.slice (some ⟨b,0,none⟩) c c)) w'):
  St1 P f n R k ⟨dst,.makeSlice t x y,ty,pos,af,none⟩ ρ w K:=by
 obtain⟨i,hi,hzi,hs,hby⟩:=he.info
 have hbn:bytes*c≤16384*4294967296:=Nat.mul_le_mul hb hc
 have hb3:(bytes:Int)*(c:Int)≤281474976710656:=by rw[←Int.natCast_mul];omega
 have hr:=run_make (P:=P) w t e i z ht hi hzi kd kd2 c c (Int.natCast_nonneg _) (Int.le_refl _) (by rw[hby];exact hb3) (by omega)
 rw[hs,Int.toNat_natCast,made_flat hz]at hr
 have ho:=own_push w e (List.replicate c zs) (by simp only[List.length_replicate,maxLen];omega)
 rw[List.length_replicate]at ho
 refine St1.val (v:= .slice (some ⟨w.heap.size,0,none⟩) c c) (w':={w with heap:=w.heap.push (.cells (flat (List.replicate c zs)).toArray e)}) ?_ (h _ _ (Nat.le_refl _) ho (Ext.push w _))
 simp only[execOp,Sem.run_bind,hx,hy,hr,Result.andThen_ok,Sem.run_pure]
 rfl
end
end Go.Proofs.YtocgdeefgohdhaaGreat
