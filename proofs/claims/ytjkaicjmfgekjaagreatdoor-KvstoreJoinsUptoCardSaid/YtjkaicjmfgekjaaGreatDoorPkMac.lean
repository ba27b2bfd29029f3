/-
  Mac
-/
import Derived.Test.YtjkaicjmfgekjaaGreatDoorPkMake
import Derived.Test.YtjkaicjmfgekjaaGreatDoorPkErr
import Derived.Test.YtjkaicjmfgekjaaGreatDoorPkCopy
import Derived.Test.YtjkaicjmfgekjaaGreatDoorPkPlain
set_option linter.all false
namespace Go.Proofs.YtjkaicjmfgekjaaGreatDoor
class Und (P:Program)(t:TypeId)(d:outParam TypeDesc):Prop where
 h:P.underlying t=some d
class Fld (P:Program)(t i:Nat)(off ft:outParam Nat):Prop where
 h:∃fs fd,P.underlying t=some (.struct fs)∧fs[i]? =some fd∧fd.offset=off∧fd.type=ft
theorem Fld.of {P:Program}{t i off ft:Nat}{fs:Array Field}{fd:Field}(h:P.underlying t=some (.struct fs))(h1:fs[i]? =some fd:=by rfl)(h2:fd.offset=off:=by rfl)(h3:fd.type=ft:=by rfl):Fld P t i off ft:=⟨fs,fd,h,h1,h2,h3⟩
class Ent (P:Program)(g:FuncId):Prop where
 h:Fh P g
theorem Ent.of {P:Program}{g:FuncId}{fn:Func}{c:Code}(hf:P.funcs[g]? =some fn)(hb:fn.body=some c:=by rfl)(hn:(fn.name== "runtime.NumGoroutine")=false:=by kernel_rfl):Ent P g:=⟨Ec hf hb hn⟩
theorem Ty.of {P:Program}{t:TypeId}{size bytes:Nat}{z:Value}{agg:Bool}(h:(P.info? t).map (fun i=>(i.zero,i.size,i.bytes))=some (some z,size,bytes):=by kernel_rfl)
  (h2:(P.underlying t).map aggDesc=some agg:=by kernel_rfl):Ty P t size bytes z agg:=T3 h h2
theorem mixP {P:Program}(h:(P.follows .mixedOrders)=true):P.follows .mixedOrders=true:=h
section
variable {P :Program}{n:FN}{ρ:AV}{w:World}{dst:Option Nat}{ty:TypeId}{pos:String}{af:Array Edge}{g:Option (Nat×Bool)}
theorem Og {t e:TypeId}{x:Operand}{a:Option Addr}{l c:Nat}[u:Und P t (.slice e)](hx:rd n ρ x= .slice a l c):
  X P n ρ ⟨dst,.call {callee:= .builtin .len,args:=#[x],argTypes:=#[t]},ty,pos,af,g⟩ w (.int .i64 (l:Int)) w:=Cu u.h hx
theorem T8 {t:TypeId}{x:Operand}{b o o' i size bytes off ft:Nat}{z:Value}{agg:Bool}(hx:rd n ρ x= .pointer (some ⟨b,o,none⟩))[u:Fld P t i off ft][e:Ty P ft size bytes z agg]
  (h0:(size==0)=false) (ho:o+off=o'):X P n ρ ⟨dst,.fieldAddr t x i,ty,pos,af,g⟩ w (.pointer (some ⟨b,o',none⟩)) w:=by
 obtain⟨fs,fd,h1,h2,h3,h4⟩:=u.h
 subst h3 h4
 exact D7 h1 h2 e h0 hx ho
theorem QE {t:TypeId}{x:Operand}{i size bytes off ft:Nat}{z:Value}{cs:Array Value}{v:Value}(hx:rd n ρ x= .agg cs)[u:Fld P t i off ft][e:Ty P ft size bytes z false](hv:cs[off]? =some v):
  X P n ρ ⟨dst,.field t x i,ty,pos,af,g⟩ w v w:=by
 obtain⟨fs,fd,h1,h2,h3,h4⟩:=u.h
 subst h3 h4
 exact Ux h1 h2 e hx hv
theorem Vz {t:TypeId}{x:Operand}{b o size bytes:Nat}{z v:Value}{c:List Value}{T:TypeId}(hx:rd n ρ x= .pointer (some ⟨b,o,none⟩))[e:Ty P t size bytes z false](hb:AA w b c T)(hc:c[o]? =some v)(hv:v.oneCell'=true):
  X P n ρ ⟨dst,.load t x,ty,pos,af,g⟩ w v w:=Ey e hx hv (by have:=hb.cl.field hc;rwa[Nat.zero_add]at this)
theorem T9 {t:TypeId}{x:Operand}{b o size bytes:Nat}{z:Value}{c l:List Value}{T:TypeId}(hx:rd n ρ x= .pointer (some ⟨b,o,none⟩))[e:Ty P t size bytes z true](hb:AA w b c T)(hc:(c.drop o).take size=l)(hs:l.length=size):
  X P n ρ ⟨dst,.load t x,ty,pos,af,g⟩ w (.agg l.toArray) w:=Vv e hx (by simpa using hs) (by have:=hb.cl.drop o size;rw[Nat.zero_add,hc]at this;simpa using this)
theorem Ua {α:Type}{inst:Enc α}{t:TypeId}{x:Operand}{b o size bytes:Nat}{z v:Value}{agg:Bool}{y:α}(hx:rd n ρ x= .pointer (some ⟨b,o,none⟩))[e:Ty P t size bytes z agg](hc:Cl w b o (cellsOf y))(hv:Enc.val y=v)(hs:size=Enc.size α)(ha:agg=Enc.agg α):
  X P n ρ ⟨dst,.load t x,ty,pos,af,g⟩ w v w:=by subst hs ha;exact Dw e hx hc hv
theorem Ub {t e:TypeId}{x ix:Operand}{a:Option Addr}{b o l c size bytes:Nat}{z:Value}{agg:Bool}{kd:IntKind}{i:Nat}(hx:rd n ρ x= .slice a l c)(hi:rd n ρ ix= .int kd (i:Int))
  [u:Und P t (.slice e)] [s:Ty P e size bytes z agg] (ha:a=some ⟨b,o,none⟩) (h1:i<l):X P n ρ ⟨dst,.indexAddr t x ix,ty,pos,af,g⟩ w (.pointer (some ⟨b,o+i*size,none⟩)) w:=AI u.h s hx hi ha h1
end
section
variable {P :Program}{n:FN}{ρ:AV}{w w':World}{o:Oper}{v:Value}
theorem Uc (h:X P n ρ o w v w:=by
 first
 |(apply C8;exact rfl)|(apply EQ;exact rfl)|(apply N2;exact rfl)|(apply N1;exact rfl)
 |(apply Ib;exact rfl)|(apply N3;exact rfl)|(apply N5;exact rfl)|(apply CE;exact rfl)
 |(apply JG;exact rfl)|(apply Iy;exact rfl)|(apply JJ;exact rfl)|(apply JH;exact rfl)
 |(apply JK;exact rfl)|(apply JM;exact rfl)|(apply T8;exact rfl;exact rfl;(first|exact Nat.zero_add _|exact rfl))|(apply IA;exact rfl)
 |(apply Og;exact rfl)|(apply Vz;exact rfl;assumption;exact rfl;exact rfl)|(apply T9;exact rfl;assumption;(first|(simp only[Nat.zero_add,Nat.reduceAdd,List.drop_succ_cons,List.drop_zero,List.take_succ_cons,List.take_zero,List.take_nil];exact(rfl:_=_::_))|exact(rfl:_=[_,_])|exact(rfl:_=[_,_,_])|exact(rfl:_=[_])|exact(rfl:_=[_,_,_,_])|exact(rfl:_=[_,_,_,_,_])|exact rfl);exact rfl)|(apply Ua;exact rfl;assumption;exact rfl;exact rfl;exact rfl)
 |(apply Cq;apply Gk<;>exact rfl;decide)|(apply CW;apply Gk<;>exact rfl;decide)|(apply Gk<;>exact rfl)
 |(apply Cq;apply FG<;>exact rfl;decide)|(apply CW;apply FG<;>exact rfl;decide)|(apply FG<;>exact rfl)
 |(apply Cq;apply IB<;>exact rfl;decide)|(apply CW;apply IB<;>exact rfl;decide)|(apply IB<;>exact rfl)
 |(apply Cq;apply D6<;>exact rfl;decide)|(apply CW;apply D6<;>exact rfl;decide)|(apply D6<;>exact rfl)
 |(apply Cq;apply Ly<;>exact rfl;decide)|(apply CW;apply Ly<;>exact rfl;decide)|(apply Ly<;>exact rfl)
 |(apply Cq;apply JO<;>exact rfl;decide)|(apply CW;apply JO<;>exact rfl;decide)|(apply JO<;>exact rfl)
 |(apply Bo;exact rfl)|(apply Bz;exact rfl;exact rfl)
 |(apply Ub;exact rfl;exact rfl;assumption;first|omega|(simp only[List.length_set];omega))|(apply QE;exact rfl;exact rfl)|(apply N6;exact rfl)|(apply JN;exact rfl)
 |(apply N4;exact rfl)|(apply JL;exact rfl)|(apply Lx;exact rfl)|(apply Iz;exact rfl)):X P n ρ o w v w:=h
theorem gq {c:Bool}{v x:Value}(hg:c=true)(h:v=gv c x):v=x:=by rw[h];exact Bf hg
theorem Ud {c:Bool}(h:c=true→X P n ρ o w v w:=by
 intro hg
 first
 |(apply C8;(first|exact rfl|exact Bf hg|exact Bf (CA hg)))|(apply EQ;(first|exact rfl|exact Bf hg|exact Bf (CA hg)))|(apply N2;(first|exact rfl|exact Bf hg|exact Bf (CA hg)))|(apply N1;(first|exact rfl|exact Bf hg|exact Bf (CA hg)))
 |(apply Ib;(first|exact rfl|exact Bf hg|exact Bf (CA hg)))|(apply N3;(first|exact rfl|exact Bf hg|exact Bf (CA hg)))|(apply N5;(first|exact rfl|exact Bf hg|exact Bf (CA hg)))|(apply CE;(first|exact rfl|exact Bf hg|exact Bf (CA hg)))
 |(apply JG;(first|exact rfl|exact Bf hg|exact Bf (CA hg)))|(apply Iy;(first|exact rfl|exact Bf hg|exact Bf (CA hg)))|(apply JJ;(first|exact rfl|exact Bf hg|exact Bf (CA hg)))|(apply JH;(first|exact rfl|exact Bf hg|exact Bf (CA hg)))
 |(apply JK;(first|exact rfl|exact Bf hg|exact Bf (CA hg)))|(apply JM;(first|exact rfl|exact Bf hg|exact Bf (CA hg)))|(apply T8;(first|exact rfl|exact Bf hg|exact Bf (CA hg));exact rfl;(first|exact Nat.zero_add _|exact rfl))|(apply IA;(first|exact rfl|exact Bf hg|exact Bf (CA hg)))
 |(apply Og;(first|exact rfl|exact Bf hg|exact Bf (CA hg)))|(apply Vz;(first|exact rfl|exact Bf hg|exact Bf (CA hg));assumption;exact rfl;exact rfl)|(apply T9;(first|exact rfl|exact Bf hg|exact Bf (CA hg));assumption;(first|(simp only[Nat.zero_add,Nat.reduceAdd,List.drop_succ_cons,List.drop_zero,List.take_succ_cons,List.take_zero,List.take_nil];exact(rfl:_=_::_))|exact(rfl:_=[_,_])|exact(rfl:_=[_,_,_])|exact(rfl:_=[_])|exact(rfl:_=[_,_,_,_])|exact(rfl:_=[_,_,_,_,_])|exact rfl);exact rfl)|(apply Ua;(first|exact rfl|exact Bf hg|exact Bf (CA hg));assumption;exact rfl;exact rfl;exact rfl)
 |(apply Gk<;>(first|exact rfl|exact Bf hg|exact Bf (CA hg)))|(apply FG<;>(first|exact rfl|exact Bf hg|exact Bf (CA hg)))|(apply IB<;>(first|exact rfl|exact Bf hg|exact Bf (CA hg)))|(apply D6<;>(first|exact rfl|exact Bf hg|exact Bf (CA hg)))
 |(apply Ly<;>(first|exact rfl|exact Bf hg|exact Bf (CA hg)))|(apply JO<;>(first|exact rfl|exact Bf hg|exact Bf (CA hg)))|(apply Bo;(first|exact rfl|exact Bf hg|exact Bf (CA hg)))|(apply Bz;(first|exact rfl|exact Bf hg|exact Bf (CA hg));exact rfl)
 |(apply Ub;(first|exact rfl|exact Bf hg|exact Bf (CA hg));(first|exact rfl|exact Bf hg|exact Bf (CA hg));assumption;first|omega|(simp only[List.length_set];omega))|(apply QE;(first|exact rfl|exact Bf hg|exact Bf (CA hg));exact rfl)|(apply N6;(first|exact rfl|exact Bf hg|exact Bf (CA hg)))|(apply JN;(first|exact rfl|exact Bf hg|exact Bf (CA hg)))
 |(apply N4;(first|exact rfl|exact Bf hg|exact Bf (CA hg)))|(apply JL;(first|exact rfl|exact Bf hg|exact Bf (CA hg)))|(apply Lx;(first|exact rfl|exact Bf hg|exact Bf (CA hg)))|(apply Iz;(first|exact rfl|exact Bf hg|exact Bf (CA hg)))):c=true→X P n ρ o w v w:=h
end
section
variable {P :Program}{f:FuncId}{n:FN}{R:Ending→World→Prop}{k:List Item}{ops:Array Oper}{rest:List Oper}{ρ:AV}{w w':World}
variable {dst :Option Nat}{op:Op}{ty:TypeId}{pos:String}{af:Array Edge}{o:Oper}{v:Value}{g:Option (Nat×Bool)}{c:Bool}
theorem jV (hx:X P n ρ ⟨dst,op,ty,pos,af,none⟩ w v w')(h:RL P f n R k ops rest (A4 ρ dst v) w'):RL P f n R k ops (⟨dst,op,ty,pos,af,none⟩::rest) ρ w:=RL.val hx h
theorem jW (h:RL P f n R k ops rest (A4 ρ dst (gv c v)) w)(hw:Region.wanted ⟨dst,op,ty,pos,af,g⟩ (yielded ops (BN n ρ).tmps)=c:=by first|exact Bg rfl rfl rfl rfl|exact Bl rfl rfl rfl rfl|exact Cf rfl rfl rfl rfl|exact Cg rfl rfl rfl rfl)(hx:c=true→X P n ρ ⟨dst,op,ty,pos,af,none⟩ w v w):RL P f n R k ops (⟨dst,op,ty,pos,af,g⟩::rest) ρ w:=RL.gval hw hx h
def QF (m:Nat):Nat→Array Bool
 |0=>Array.replicate m false
 |i+1=>(QF m i).setIfInBounds i true
def QG (ops:Array Oper):Bool:=((List.range ops.size).all fun i=>Fz ops (QF ops.size i) i)&&(Region.ready .any ops (QF ops.size ops.size)).isEmpty
def RD (P:Program)(f:FuncId)(n:FN)(R:Ending→World→Prop)(k:List Item)(ops:Array Oper):List Oper→AV→World→Prop
 |[],ρ,w=>Aj P f n R k ρ w
 |o::l,ρ,w=>∃c v,Region.wanted o (yielded ops (BN n ρ).tmps)=c∧(c=true→X P n ρ {o with guard:=none} w v w)∧RD P f n R k ops l (A4 ρ o.dst (gv c v)) w
theorem RD.ra (hb : QG ops = true) : ∀ (l : List Oper) (i : Nat) (ρ : AV), ops.toList.drop i = l → RD P f n R k ops l ρ w → RA P f n R k ops (· = w) (ops.size - i) (QF ops.size i) ρ w := by
  simp only [QG, Bool.and_eq_true, List.all_eq_true, List.mem_range] at hb
  obtain ⟨h1, h2⟩ := hb
  have h2' : Region.ready .any ops (QF ops.size ops.size) = [] := by simpa using h2
  intro l
  induction l with
  | nil =>
    intro i ρ hl h
    have hi : ops.size ≤ i := by simpa using List.drop_eq_nil_iff.1 hl
    have key : ∀ j, QF ops.size (ops.size + j) = QF ops.size ops.size := by
      intro j
      induction j with
      | zero => rfl
      | succ j ih => rw [← Nat.add_assoc, QF, ih]; apply Array.setIfInBounds_eq_of_size_le; have : ∀ m i, (QF m i).size = m := by { intro m i; induction i with | zero => simp [QF] | succ i ih => simp [QF, ih] }; rw [this]; omega
    obtain ⟨j, rfl⟩ : ∃ j, i = ops.size + j := ⟨i - ops.size, by omega⟩
    rw [key]
    exact RA.done h2' h
  | cons o l ih =>
    intro i ρ hl h
    have hi : i < ops.size := by
      rcases Nat.lt_or_ge i ops.size with h | h
      · exact h
      · rw [List.drop_eq_nil_of_le (by simpa using h)] at hl; cases hl
    have ho : ops[i]? = some o := by
      have := congrArg (·[0]?) hl
      simpa using this
    obtain ⟨c, v, hw, hx, hr⟩ := h
    obtain ⟨d, p, t, ps, a, g⟩ := o
    have e : ops.size - i = (ops.size - (i + 1)) + 1 := by omega
    rw [e]
    refine RA.gtake (v := v) (c := c) i ho (h1 i hi) rfl hw (fun hc => by rintro _ rfl; exact hx hc) ?_
    exact ih (i + 1) _ (by rw [← List.drop_drop, hl]; rfl) hr
theorem Aj.drawR {id:Nat}(h:∀w',Aq w w'→RD P f n R k ops ops.toList ρ w')(hm:P.follows .mixedOrders=true:=by kernel_rfl)(hb:QG ops=true:=by kernel_rfl):Aj P f n R (.code (.region id ops true)::k) ρ w:=
 Aj.draw' hm rfl fun w' K=>RD.ra hb _ 0 _ rfl (h w' K)
theorem RD.nil (h:Aj P f n R k ρ w):RD P f n R k ops [] ρ w:=h
theorem jD (hx:X P n ρ ⟨dst,op,ty,pos,af,none⟩ w v w)(h:RD P f n R k ops rest (A4 ρ dst v) w):RD P f n R k ops (⟨dst,op,ty,pos,af,none⟩::rest) ρ w:=⟨true,v,rfl,fun _=>hx,h⟩
theorem jE (h:RD P f n R k ops rest (A4 ρ dst (gv c v)) w)(hw:Region.wanted ⟨dst,op,ty,pos,af,g⟩ (yielded ops (BN n ρ).tmps)=c:=by first|exact Bg rfl rfl rfl rfl|exact Bl rfl rfl rfl rfl|exact Cf rfl rfl rfl rfl|exact Cg rfl rfl rfl rfl)(hx:c=true→X P n ρ ⟨dst,op,ty,pos,af,none⟩ w v w):RD P f n R k ops (⟨dst,op,ty,pos,af,g⟩::rest) ρ w:=⟨c,v,hw,hx,h⟩
end
def IL (ops : Array Oper) (U : List Nat) : List Nat → Array Bool → Bool
  | [], l => (Region.ready .any ops l).isEmpty
  | c :: r, l => (match c / 1000 with
    | 0 => IF ops U l (c % 1000)
    | 1 => GM ops U l (c % 1000)
    | _ => decide (Region.ready .any ops l = [c % 1000])) && IL ops U r (l.setIfInBounds (c % 1000) true)
def LS (U:List Nat)(l:Array Bool)(S:World→Prop)(w:World):Prop:=BP U l=true∨S w
def RS (P : Program) (f : FuncId) (n : FN) (R : Ending → World → Prop) (k : List Item) (ops : Array Oper) (S : World → Prop) (U : List Nat) : List Nat → Array Bool → AV → World → Prop
  | [], _, ρ, w => Aj P f n R k ρ w
  | c :: r, l, ρ, w => ∃ o, ops[c % 1000]? = some o ∧ ∃ b v, Region.wanted o (yielded ops (BN n ρ).tmps) = b ∧
    ((c / 1000 = 0 ∧ (b = true → ∀ w, X P n ρ { o with guard := none } w v w) ∧ RS P f n R k ops S U r (l.setIfInBounds (c % 1000) true) (A4 ρ o.dst (gv b v)) w) ∨
     (c / 1000 = 1 ∧ (b = true → ∀ w, S w → X P n ρ { o with guard := none } w v w) ∧ RS P f n R k ops S U r (l.setIfInBounds (c % 1000) true) (A4 ρ o.dst (gv b v)) w) ∨
     (2 ≤ c / 1000 ∧ (b = true → Av P f n R k { o with guard := none } ρ w (fun ρ' w' => LS U (l.setIfInBounds (c % 1000) true) S w' ∧ RS P f n R k ops S U r (l.setIfInBounds (c % 1000) true) ρ' w')) ∧
      (b = false → LS U (l.setIfInBounds (c % 1000) true) S w ∧ RS P f n R k ops S U r (l.setIfInBounds (c % 1000) true) (A4 ρ o.dst undef) w)))
section
variable {P :Program}{f:FuncId}{n:FN}{R:Ending→World→Prop}{k:List Item}{ops:Array Oper}{rest:List Oper}{ρ:AV}{w w':World}
variable {dst :Option Nat}{op:Op}{ty:TypeId}{pos:String}{af:Array Edge}{o:Oper}{v:Value}{g:Option (Nat×Bool)}{c:Bool}{S:World→Prop}{U:List Nat}{q:Nat}{r:List Nat}{l:Array Bool}
theorem Nb {i:Nat}(h:IF ops U l i=true):BP U (l.setIfInBounds i true)=BP U l:=by
 simp only[IF,Bool.and_eq_true]at h
 exact Ci (by simpa using h.2)
theorem Nc {i:Nat}(h:GM ops U l i=true):BP U l=false∧BP U (l.setIfInBounds i true)=BP U l:=by
 simp only[GM,Bool.and_eq_true,Bool.not_eq_true',vB]at h
 exact⟨h.2,Ci (by simpa using h.1.2.1)⟩
theorem RS.rt : ∀ (sch : List Nat) (fuel : Nat) (l : Array Bool) (ρ : AV) (w : World), IL ops U sch l = true → sch.length ≤ fuel → (BP U l = true ∨ S w) → RS P f n R k ops S U sch l ρ w → RT P f n R k ops S U fuel l ρ w := by
  intro sch
  induction sch with
  | nil => intro fuel l ρ w hb _ _ h; exact RT.done (by simpa [IL] using hb) h
  | cons q r ih =>
    intro fuel l ρ w hb hf hS h
    obtain ⟨o, ho, b, v, hw, h⟩ := h
    rw [IL, Bool.and_eq_true] at hb
    obtain ⟨hb, hr⟩ := hb
    obtain ⟨m, rfl⟩ : ∃ m, fuel = m + 1 := ⟨fuel - 1, by simp only [List.length_cons] at hf; omega⟩
    have hf' : r.length ≤ m := by simp only [List.length_cons] at hf; omega
    obtain ⟨d, p, t, ps, a, g⟩ := o
    rcases h with ⟨hk, hx, h⟩ | ⟨hk, hx, h⟩ | ⟨hk, hx, h⟩
    · rw [hk] at hb
      exact RT.gtakeP (v := v) (c := b) _ ho hb hS hw hx (ih m _ _ _ hr hf' (by rw [Nb hb]; exact hS) h)
    · rw [hk] at hb
      have hS' : S w := hS.resolve_left (by rw [(Nc hb).1]; decide)
      exact RT.gtake (v := v) (c := b) _ ho hb hS' hw hx (ih m _ _ _ hr hf' (.inr hS') h)
    · have hb' : Region.ready .any ops l = [q % 1000] := by
        have : q / 1000 ≠ 0 ∧ q / 1000 ≠ 1 := by omega
        revert hb
        split
        · rename_i e; exact absurd e this.1
        · rename_i e; exact absurd e this.2
        · intro hb; simpa using hb
      cases b with
      | true =>
        refine RT.one _ ho hb' ?_
        unfold wpOp
        simp only [ho, hw, if_true]
        have h3 : Oper.wp P ⟨d, p, t, ps, a, none⟩ (BN n ρ) w (fun a' w' => ∃ ρ', a' = BN n ρ' ∧ (BP U (l.setIfInBounds (q % 1000) true) = true ∨ S w') ∧ RT P f n R k ops S U m (l.setIfInBounds (q % 1000) true) ρ' w') (H6 P f n R k) := by
          refine Oper.wp_mono ?_ (hx rfl)
          rintro a' w' ⟨ρ', rfl, h1, h2⟩
          exact ⟨ρ', rfl, h1, ih m _ _ _ hr hf' h1 h2⟩
        exact .inl h3
      | false =>
        obtain ⟨h1, h2⟩ := h rfl
        exact RT.gT _ ho hb' hw h1 (ih m _ _ _ hr hf' h1 h2)
theorem Aj.drawS {id:Nat}(U:List Nat)(sch:List Nat)(h:∀w',Aq w w'→∃S,S w'∧RS P f n R k ops S U sch (Array.replicate ops.size false) ρ w')(hm:P.follows .mixedOrders=true:=by kernel_rfl)
  (hb:(IL ops U sch (Array.replicate ops.size false)&&Nat.ble sch.length ops.size)=true:=by kernel_rfl):Aj P f n R (.code (.region id ops true)::k) ρ w:=by
 rw[Bool.and_eq_true]at hb
 refine Aj.drawT U hm rfl fun w' K=> ?_
 obtain⟨S,hS,h⟩:=h w' K
 exact⟨S,RS.rt sch _ _ _ _ hb.1 (Nat.le_of_ble_eq_true hb.2) (.inr hS) h⟩
structure HS (S:World→Prop)(w:World):Prop where
 h:S w
theorem Jn :HS (fun _=>True) w:=⟨trivial⟩
theorem jb {b:Nat}{c:List Value}{T:TypeId}(h:AA w b c T)(r:HS S w):HS (fun w'=>AA w' b c T∧S w') w:=⟨⟨h,r.h⟩⟩
theorem jl {b o:Nat}{c:List Value}(h:Cl w b o c)(r:HS S w):HS (fun w'=>Cl w' b o c∧S w') w:=⟨⟨h,r.h⟩⟩
theorem jM (hS:HS S w)(h:RS P f n R k ops S U r l ρ w):∃S,S w∧RS P f n R k ops S U r l ρ w:=⟨S,hS.h,h⟩
theorem RS.nil (h:Aj P f n R k ρ w):RS P f n R k ops S U [] l ρ w:=h
theorem jP (h:RS P f n R k ops S U r (l.setIfInBounds (q%1000) true) (A4 ρ dst v) w)(hi:ops[q%1000]? =some ⟨dst,op,ty,pos,af,none⟩:=by rfl)(hk:q/1000=0:=by rfl)(hx:∀w,X P n ρ ⟨dst,op,ty,pos,af,none⟩ w v w):RS P f n R k ops S U (q::r) l ρ w:=⟨_,hi,true,v,rfl,.inl ⟨hk,fun _=>hx,h⟩⟩
theorem jQ (h:RS P f n R k ops S U r (l.setIfInBounds (q%1000) true) (A4 ρ dst (gv c v)) w)(hi:ops[q%1000]? =some ⟨dst,op,ty,pos,af,g⟩:=by rfl)(hk:q/1000=0:=by rfl)(hw:Region.wanted ⟨dst,op,ty,pos,af,g⟩ (yielded ops (BN n ρ).tmps)=c:=by first|exact Bg rfl rfl rfl rfl|exact Bl rfl rfl rfl rfl|exact Cf rfl rfl rfl rfl|exact Cg rfl rfl rfl rfl)(hx:∀w,c=true→X P n ρ ⟨dst,op,ty,pos,af,none⟩ w v w):RS P f n R k ops S U (q::r) l ρ w:=⟨_,hi,c,v,hw,.inl ⟨hk,fun hc w=>hx w hc,h⟩⟩
theorem W5 (h:RS P f n R k ops S U r (l.setIfInBounds (q%1000) true) (A4 ρ dst undef) w)(hi:ops[q%1000]? =some ⟨dst,op,ty,pos,af,g⟩:=by rfl)(hk:Nat.blt (q/1000) 2=true:=by rfl)
  (hw:Region.wanted ⟨dst,op,ty,pos,af,g⟩ (yielded ops (BN n ρ).tmps)=false:=by first|exact C1 rfl rfl rfl rfl|exact C2 rfl rfl rfl rfl|exact Bm rfl rfl rfl rfl):RS P f n R k ops S U (q::r) l ρ w:=by
 have hk':q/1000=0∨q/1000=1:=by have:=Nat.le_of_ble_eq_true hk;omega
 rcases hk' with hk|hk
 ·exact⟨_,hi,false,undef,hw,.inl ⟨hk,fun e=>(by cases e),h⟩⟩
 ·exact⟨_,hi,false,undef,hw,.inr (.inl ⟨hk,fun e=>(by cases e),h⟩)⟩
theorem kd0 (h:RD P f n R k ops rest (A4 ρ dst undef) w)(hw:Region.wanted ⟨dst,op,ty,pos,af,g⟩ (yielded ops (BN n ρ).tmps)=false:=by first|exact C1 rfl rfl rfl rfl|exact C2 rfl rfl rfl rfl|exact Bm rfl rfl rfl rfl):RD P f n R k ops (⟨dst,op,ty,pos,af,g⟩::rest) ρ w:=⟨false,undef,hw,fun e=>(by cases e),h⟩
theorem kv0 (h:RL P f n R k ops rest (A4 ρ dst undef) w)(hw:Region.wanted ⟨dst,op,ty,pos,af,g⟩ (yielded ops (BN n ρ).tmps)=false:=by first|exact C1 rfl rfl rfl rfl|exact C2 rfl rfl rfl rfl|exact Bm rfl rfl rfl rfl):RL P f n R k ops (⟨dst,op,ty,pos,af,g⟩::rest) ρ w:=RL.guardF hw h
theorem jH (h:RS P f n R k ops S U r (l.setIfInBounds (q%1000) true) (A4 ρ dst v) w)(hi:ops[q%1000]? =some ⟨dst,op,ty,pos,af,none⟩:=by rfl)(hk:q/1000=1:=by rfl)(hx:∀w,S w→X P n ρ ⟨dst,op,ty,pos,af,none⟩ w v w):RS P f n R k ops S U (q::r) l ρ w:=⟨_,hi,true,v,rfl,.inr (.inl ⟨hk,fun _=>hx,h⟩)⟩
theorem jI (h:RS P f n R k ops S U r (l.setIfInBounds (q%1000) true) (A4 ρ dst (gv c v)) w)(hi:ops[q%1000]? =some ⟨dst,op,ty,pos,af,g⟩:=by rfl)(hk:q/1000=1:=by rfl)(hw:Region.wanted ⟨dst,op,ty,pos,af,g⟩ (yielded ops (BN n ρ).tmps)=c:=by first|exact Bg rfl rfl rfl rfl|exact Bl rfl rfl rfl rfl|exact Cf rfl rfl rfl rfl|exact Cg rfl rfl rfl rfl)(hx:c=true→∀w,S w→X P n ρ ⟨dst,op,ty,pos,af,none⟩ w v w):RS P f n R k ops S U (q::r) l ρ w:=⟨_,hi,c,v,hw,.inr (.inl ⟨hk,hx,h⟩)⟩
theorem jU (hi:ops[q%1000]? =some ⟨dst,op,ty,pos,af,none⟩)(h:Av P f n R k ⟨dst,op,ty,pos,af,none⟩ ρ w (fun ρ' w'=>LS U (l.setIfInBounds (q%1000) true) S w'∧RS P f n R k ops S U r (l.setIfInBounds (q%1000) true) ρ' w'))(hk:2≤q/1000:=by decide):RS P f n R k ops S U (q::r) l ρ w:=⟨_,hi,true,undef,rfl,.inr (.inr ⟨hk,fun _=>h,fun e=>(by cases e)⟩)⟩
theorem jX (hi:ops[q%1000]? =some ⟨dst,op,ty,pos,af,g⟩)(h:Av P f n R k ⟨dst,op,ty,pos,af,none⟩ ρ w (fun ρ' w'=>LS U (l.setIfInBounds (q%1000) true) S w'∧RS P f n R k ops S U r (l.setIfInBounds (q%1000) true) ρ' w'))(hk:2≤q/1000:=by decide)(hw:Region.wanted ⟨dst,op,ty,pos,af,g⟩ (yielded ops (BN n ρ).tmps)=true:=by first|exact LD rfl rfl rfl rfl|exact LE rfl rfl rfl rfl):RS P f n R k ops S U (q::r) l ρ w:=⟨_,hi,true,undef,hw,.inr (.inr ⟨hk,fun _=>h,fun e=>(by cases e)⟩)⟩
theorem jY (h:LS U (l.setIfInBounds (q%1000) true) S w∧RS P f n R k ops S U r (l.setIfInBounds (q%1000) true) (A4 ρ dst undef) w)(hi:ops[q%1000]? =some ⟨dst,op,ty,pos,af,g⟩:=by rfl)(hk:2≤q/1000:=by decide)
  (hw:Region.wanted ⟨dst,op,ty,pos,af,g⟩ (yielded ops (BN n ρ).tmps)=false:=by first|exact C1 rfl rfl rfl rfl|exact C2 rfl rfl rfl rfl|exact Bm rfl rfl rfl rfl):RS P f n R k ops S U (q::r) l ρ w:=⟨_,hi,false,undef,hw,.inr (.inr ⟨hk,fun e=>(by cases e),fun _=>h⟩)⟩
theorem jZ {c:Bool}{g:FuncId}{ol:List Operand}{ts:Array TypeId}{vals:List Value}{v:Value}{gd:Option (Nat×Bool)}(hc:c=true→Calls P g vals.toArray w (AS fun u w'=>u=v∧Aq w w'))
  (h:∀w',Aq w w'→LS U (l.setIfInBounds (q%1000) true) S w'∧RS P f n R k ops S U r (l.setIfInBounds (q%1000) true) (A4 ρ dst (gv c v)) w') [he:Ent P g]
  (hi:ops[q%1000]? =some ⟨dst,.call {callee:= .value (.func g),args:=ol.toArray,argTypes:=ts},ty,pos,af,gd⟩:=by rfl) (hk:2≤q/1000:=by decide)
  (hw:Region.wanted ⟨dst,.call {callee:= .value (.func g),args:=ol.toArray,argTypes:=ts},ty,pos,af,gd⟩ (yielded ops (BN n ρ).tmps)=c:=by first|exact Bg rfl rfl rfl rfl|exact Bl rfl rfl rfl rfl|exact Cf rfl rfl rfl rfl|exact Cg rfl rfl rfl rfl)
  (ha:c=true→ol.map (rd n ρ)=vals:=by intro hg;first|rfl|(repeat (first|exact EJ|refine BM (by first|rfl|exact Bf hg|exact Bf (CA hg)) ?_))):RS P f n R k ops S U (q::r) l ρ w:=by
 refine⟨_,hi,c,v,hw,.inr (.inr ⟨hk,fun hc1=> ?_,fun hc0=> ?_⟩)⟩
 ·subst hc1;exact Av.call he.h (ha rfl) (hc rfl) fun u w' hu=>by rw[hu.1];exact h w' hu.2
 ·subst hc0;exact h w (Ah.refl _ w)
theorem WL (hx:X P n ρ ⟨dst,op,ty,pos,af,none⟩ w v w')(h:RL P f n R k ops rest (A4 ρ dst v) w'):RL P f n R k ops (⟨dst,op,ty,pos,af,none⟩::rest) ρ w:=RL.val hx h
theorem WM (hx:X P n ρ ⟨dst,op,ty,pos,af,none⟩ w v w)(h:RD P f n R k ops rest (A4 ρ dst v) w):RD P f n R k ops (⟨dst,op,ty,pos,af,none⟩::rest) ρ w:=⟨true,v,rfl,fun _=>hx,h⟩
theorem WN (hi:ops[q%1000]? =some ⟨dst,op,ty,pos,af,none⟩)(hk:q/1000=0)(hx:∀w,X P n ρ ⟨dst,op,ty,pos,af,none⟩ w v w)(h:RS P f n R k ops S U r (l.setIfInBounds (q%1000) true) (A4 ρ dst v) w):RS P f n R k ops S U (q::r) l ρ w:=⟨_,hi,true,v,rfl,.inl ⟨hk,fun _=>hx,h⟩⟩
theorem WO (hi:ops[q%1000]? =some ⟨dst,op,ty,pos,af,none⟩)(hk:q/1000=1)(hx:∀w,S w→X P n ρ ⟨dst,op,ty,pos,af,none⟩ w v w)(h:RS P f n R k ops S U r (l.setIfInBounds (q%1000) true) (A4 ρ dst v) w):RS P f n R k ops S U (q::r) l ρ w:=⟨_,hi,true,v,rfl,.inr (.inl ⟨hk,fun _=>hx,h⟩)⟩
theorem WP (hw:Region.wanted ⟨dst,op,ty,pos,af,g⟩ (yielded ops (BN n ρ).tmps)=c)(hx:c=true→X P n ρ ⟨dst,op,ty,pos,af,none⟩ w v w)(h:RL P f n R k ops rest (A4 ρ dst (gv c v)) w):RL P f n R k ops (⟨dst,op,ty,pos,af,g⟩::rest) ρ w:=RL.gval hw hx h
theorem WQ (hw:Region.wanted ⟨dst,op,ty,pos,af,g⟩ (yielded ops (BN n ρ).tmps)=c)(hx:c=true→X P n ρ ⟨dst,op,ty,pos,af,none⟩ w v w)(h:RD P f n R k ops rest (A4 ρ dst (gv c v)) w):RD P f n R k ops (⟨dst,op,ty,pos,af,g⟩::rest) ρ w:=⟨c,v,hw,hx,h⟩
theorem WR (hi:ops[q%1000]? =some ⟨dst,op,ty,pos,af,g⟩)(hk:q/1000=0)(hw:Region.wanted ⟨dst,op,ty,pos,af,g⟩ (yielded ops (BN n ρ).tmps)=c)(hx:∀w,c=true→X P n ρ ⟨dst,op,ty,pos,af,none⟩ w v w)(h:RS P f n R k ops S U r (l.setIfInBounds (q%1000) true) (A4 ρ dst (gv c v)) w):RS P f n R k ops S U (q::r) l ρ w:=⟨_,hi,c,v,hw,.inl ⟨hk,fun hc w=>hx w hc,h⟩⟩
theorem WS (hi:ops[q%1000]? =some ⟨dst,op,ty,pos,af,g⟩)(hk:q/1000=1)(hw:Region.wanted ⟨dst,op,ty,pos,af,g⟩ (yielded ops (BN n ρ).tmps)=c)(hx:∀w,S w→c=true→X P n ρ ⟨dst,op,ty,pos,af,none⟩ w v w)(h:RS P f n R k ops S U r (l.setIfInBounds (q%1000) true) (A4 ρ dst (gv c v)) w):RS P f n R k ops S U (q::r) l ρ w:=⟨_,hi,c,v,hw,.inr (.inl ⟨hk,fun hc w hS=>hx w hS hc,h⟩)⟩
theorem WT (hi:ops[q%1000]? =some ⟨dst,op,ty,pos,af,g⟩)(hk:Nat.blt (q/1000) 2=true)(hw:Region.wanted ⟨dst,op,ty,pos,af,g⟩ (yielded ops (BN n ρ).tmps)=false)(h:RS P f n R k ops S U r (l.setIfInBounds (q%1000) true) (A4 ρ dst undef) w):RS P f n R k ops S U (q::r) l ρ w:=W5 h hi hk hw
theorem WU (hw:Region.wanted ⟨dst,op,ty,pos,af,g⟩ (yielded ops (BN n ρ).tmps)=false)(h:RD P f n R k ops rest (A4 ρ dst undef) w):RD P f n R k ops (⟨dst,op,ty,pos,af,g⟩::rest) ρ w:=⟨false,undef,hw,fun e=>(by cases e),h⟩
theorem WV (hw:Region.wanted ⟨dst,op,ty,pos,af,g⟩ (yielded ops (BN n ρ).tmps)=false)(h:RL P f n R k ops rest (A4 ρ dst undef) w):RL P f n R k ops (⟨dst,op,ty,pos,af,g⟩::rest) ρ w:=RL.guardF hw h
theorem WW (hS:BP U l=true∨S w)(h:RS P f n R k ops S U r l ρ w):LS U l S w∧RS P f n R k ops S U r l ρ w:=⟨hS,h⟩
structure Bx (B:Prop):Prop where
 h:B
theorem Ds {A B:Prop}(h:B)(hh:Bx B→A:=by
 intro hb_
 repeat first
 |apply RL.nil|apply Aj.seq|apply Aj.region|apply RS.nil|apply RD.nil|apply Aj.skip|apply Aj.inBlock|apply Aj.block|(apply Aj.exit;exact rfl)|apply Aj.label|(apply Aj.goto;exact rfl)|apply Aj.scope|apply Aj.inScope
 |(apply WW;focus (first|(refine .inr ?_;(repeat (first|exact trivial|refine⟨by assumption,?_⟩));done)|exact .inl (by kernel_rfl)))
 exact hb_.h):A:=hh ⟨h⟩
theorem W6 {A B:Prop}(h:B)(hh:Bx B→A:=by
 intro hb_
 first
 |(apply WL;exact Uc)|(apply WN;exact rfl;exact rfl;(intro _;exact Uc))|(apply WM;exact Uc)
 |(apply WO;exact rfl;exact rfl;((intro _ hS_;repeat (have:=hS_.1;replace hS_:=hS_.2));exact Uc))
 |(apply WT;exact rfl;exact rfl;(first|exact C1 rfl rfl rfl rfl|exact C2 rfl rfl rfl rfl|exact Bm rfl rfl rfl rfl))|(apply WV;(first|exact C1 rfl rfl rfl rfl|exact C2 rfl rfl rfl rfl|exact Bm rfl rfl rfl rfl))|(apply WU;(first|exact C1 rfl rfl rfl rfl|exact C2 rfl rfl rfl rfl|exact Bm rfl rfl rfl rfl))
 |(apply WR;exact rfl;exact rfl;(first|exact Bg rfl rfl rfl rfl|exact Bl rfl rfl rfl rfl|exact Cf rfl rfl rfl rfl|exact Cg rfl rfl rfl rfl);(intro _;exact Ud))|(apply WP;(first|exact Bg rfl rfl rfl rfl|exact Bl rfl rfl rfl rfl|exact Cf rfl rfl rfl rfl|exact Cg rfl rfl rfl rfl);exact Ud)|(apply WQ;(first|exact Bg rfl rfl rfl rfl|exact Bl rfl rfl rfl rfl|exact Cf rfl rfl rfl rfl|exact Cg rfl rfl rfl rfl);exact Ud)
 |(apply WS;exact rfl;exact rfl;(first|exact Bg rfl rfl rfl rfl|exact Bl rfl rfl rfl rfl|exact Cf rfl rfl rfl rfl|exact Cg rfl rfl rfl rfl);((intro _ hS_;repeat (have:=hS_.1;replace hS_:=hS_.2));exact Ud))
 exact hb_.h):A:=hh ⟨h⟩
theorem jG {A B:Prop}(h:B)(hh:Bx B→A:=by
 intro hb_
 repeat first
 |(apply WL;exact Uc)|apply RL.nil|apply Aj.seq|apply Aj.region|apply RS.nil|apply RD.nil|apply Aj.skip|apply Aj.inBlock|apply Aj.block|(apply Aj.exit;exact rfl)|apply Aj.label|(apply Aj.goto;exact rfl)|apply Aj.scope|apply Aj.inScope
 |(apply WW;focus (first|(refine .inr ?_;(repeat (first|exact trivial|refine⟨by assumption,?_⟩));done)|exact .inl (by kernel_rfl)))
 |(apply WN;exact rfl;exact rfl;(intro _;exact Uc))|(apply WM;exact Uc)
 |(apply WO;exact rfl;exact rfl;((intro _ hS_;repeat (have:=hS_.1;replace hS_:=hS_.2));exact Uc))
 |(apply WT;exact rfl;exact rfl;(first|exact C1 rfl rfl rfl rfl|exact C2 rfl rfl rfl rfl|exact Bm rfl rfl rfl rfl))|(apply WV;(first|exact C1 rfl rfl rfl rfl|exact C2 rfl rfl rfl rfl|exact Bm rfl rfl rfl rfl))|(apply WU;(first|exact C1 rfl rfl rfl rfl|exact C2 rfl rfl rfl rfl|exact Bm rfl rfl rfl rfl))
 |(apply WR;exact rfl;exact rfl;(first|exact Bg rfl rfl rfl rfl|exact Bl rfl rfl rfl rfl|exact Cf rfl rfl rfl rfl|exact Cg rfl rfl rfl rfl);(intro _;exact Ud))|(apply WP;(first|exact Bg rfl rfl rfl rfl|exact Bl rfl rfl rfl rfl|exact Cf rfl rfl rfl rfl|exact Cg rfl rfl rfl rfl);exact Ud)|(apply WQ;(first|exact Bg rfl rfl rfl rfl|exact Bl rfl rfl rfl rfl|exact Cf rfl rfl rfl rfl|exact Cg rfl rfl rfl rfl);exact Ud)
 |(apply WS;exact rfl;exact rfl;(first|exact Bg rfl rfl rfl rfl|exact Bl rfl rfl rfl rfl|exact Cf rfl rfl rfl rfl|exact Cg rfl rfl rfl rfl);((intro _ hS_;repeat (have:=hS_.1;replace hS_:=hS_.2));exact Ud))
 exact hb_.h):A:=hh ⟨h⟩
theorem Ex {A B:Prop}(h:B)(hh:Bx B→A:=by(intro hb_;refine Ds ?_;refine W6 ?_;refine Ds ?_;exact hb_.h)):A:=hh ⟨h⟩
theorem FJ {A B:Prop}(h:B)(hh:Bx B→A:=by(intro hb_;refine Ex ?_;refine Ex ?_;exact hb_.h)):A:=hh ⟨h⟩
theorem LO {A B:Prop}(h:B)(hh:Bx B→A:=by(intro hb_;refine FJ ?_;refine FJ ?_;exact hb_.h)):A:=hh ⟨h⟩
theorem W7 {A B:Prop}(h:B)(hh:Bx B→A:=by(intro hb_;refine LO ?_;refine LO ?_;exact hb_.h)):A:=hh ⟨h⟩
variable {K :AV→World→Prop}
theorem jR (h:Av P f n R k ⟨dst,op,ty,pos,af,none⟩ ρ w (RL P f n R k ops rest)):RL P f n R k ops (⟨dst,op,ty,pos,af,none⟩::rest) ρ w:=RL.st rfl h
theorem jT (h:Av P f n R k ⟨dst,op,ty,pos,af,none⟩ ρ w (RL P f n R k ops rest))(hw:Region.wanted ⟨dst,op,ty,pos,af,g⟩ (yielded ops (BN n ρ).tmps)=true:=by first|exact LD rfl rfl rfl rfl|exact LE rfl rfl rfl rfl):RL P f n R k ops (⟨dst,op,ty,pos,af,g⟩::rest) ρ w:=RL.gst hw h
theorem jO (hx:X P n ρ ⟨dst,op,ty,pos,af,none⟩ w v w')(h:K (A4 ρ dst v) w'):Av P f n R k ⟨dst,op,ty,pos,af,none⟩ ρ w K:=Av.val hx h
theorem VA {x:Value}(h:v=x:=by first|exact(rfl:_=Value.int _ _)|exact(rfl:_=Value.pointer _)|exact(rfl:_=Value.slice _ _ _)|exact(rfl:_=Value.bool _)|exact(rfl:_=Value.string _)|exact(rfl:_=Value.agg _)|exact(rfl:_=Value.iface _ _)|exact(rfl:_=Value.map _)|exact(rfl:_=Value.func _ _ _)|rfl):v=x:=h
theorem Wr {l cs:List Value}(h:l=cs:=by first|exact(rfl:_=_::_)|rfl):l=cs:=h
theorem jB {e:TypeId}{x:Operand}{v:Value}{cs:List Value}(h:∀b w',w.heap.size≤b→AA w' b cs e→Aq w w'→K (A4 ρ dst (.pointer (some ⟨b,0,none⟩))) w')(hx:rd n ρ x=v:=by exact VA)(hc:v.cells.toList=cs:=by exact Wr):
  Av P f n R k ⟨dst,.box e x,ty,pos,af,none⟩ ρ w K:=by subst hc;exact Av.box hx h
theorem jA {e:TypeId}{size bytes:Nat}{z:Value}{agg:Bool}{cs:List Value}[he:Ty P e size bytes z agg](h:∀b w',w.heap.size≤b→AA w' b cs e→Aq w w'→K (A4 ρ dst (.pointer (some ⟨b,0,none⟩))) w')(hc:z.cells.toList=cs:=by exact Wr):
  Av P f n R k ⟨dst,.alloc e,ty,pos,af,none⟩ ρ w K:=by subst hc;exact Av.alloc he h
theorem jS {t:TypeId}{x y:Operand}{b o size bytes:Nat}{z v:Value}{agg:Bool}{c vs c':List Value}{T:TypeId}(hb:AA w b c T)(h:∀w',AA w' b c' T→Ah (one b) w w'→K ρ w')(hx:rd n ρ x= .pointer (some ⟨b,o,none⟩):=by rfl)[he:Ty P t size bytes z agg]
  (hy:rd n ρ y=v:=by exact VA) (hv:v.cells.toList=vs:=by exact Wr) (hs:vs.length=size:=by rfl) (h1:vs.all (fun u=>u.oneCell')=true:=by rfl)
  (hfit:Nat.ble (o+size) c.length=true:=by rfl) (hc:c.take o++vs++c.drop (o+size)=c':=by first|(simp only[List.take_succ_cons,List.take_zero,List.drop_succ_cons,List.drop_zero,List.drop_nil,List.cons_append,List.nil_append,List.append_nil,Nat.reduceAdd,Nat.zero_add];exact(rfl:_=_::_))|exact rfl):
  Av P f n R k ⟨none,.store t x y,ty,pos,af,none⟩ ρ w K:=by
 subst hv hc
 exact Av.store he hx hy (by simpa using hs) (fun u hu=>List.all_eq_true.1 h1 u hu) hb (Nat.le_of_ble_eq_true hfit) h
theorem jC {g:FuncId}{ol:List Operand}{ts:Array TypeId}{vals:List Value}{Φ:Value→World→Prop}(hc:Calls P g vals.toArray w (AS Φ))(h:∀v w',Φ v w'→K (A4 ρ dst v) w')[he:Ent P g](ha:ol.map (rd n ρ)=vals:=by rfl):
  Av P f n R k ⟨dst,.call {callee:= .value (.func g),args:=ol.toArray,argTypes:=ts},ty,pos,af,none⟩ ρ w K:=Av.call he.h ha hc h
end
section
variable {P :Program}{f:FuncId}{R:Ending→World→Prop}{k:List Item}{ρ:AV}{w:World}{m:Nat}
theorem jJ {fn:Func}{t:Nat}{v:Value}(hf:P.funcs[f]? =some fn)(h:R (.returned v) w)(hr:fn.results=#[.tmp t]:=by rfl)(hv:rd ⟨m,[]⟩ ρ (.tmp t)=v:=by exact VA):Aj P f ⟨m,[]⟩ R (.code .ret::k) ρ w:=Aj.ret1 hf hr hv h
theorem jK {fn:Func}{t u:Nat}{v x:Value}(hf:P.funcs[f]? =some fn)(h:R (.returned (.tuple #[v,x])) w)(hr:fn.results=#[.tmp t,.tmp u]:=by rfl)(hv:rd ⟨m,[]⟩ ρ (.tmp t)=v:=by exact VA)(hx:rd ⟨m,[]⟩ ρ (.tmp u)=x:=by exact VA):Aj P f ⟨m,[]⟩ R (.code .ret::k) ρ w:=Aj.ret2 hf hr hv hx h
theorem Ab {F:Nat→Prop}{b:Nat}(h:¬F b):∀q,F q→¬one b q:=fun q hq e=>h (by rw[←show q=b from e];exact hq)
theorem A1 {F:Nat→Prop}{a b:Nat}(h:a≤b)(g:∀q,F q→b≤q):∀q,F q→a≤q:=fun q hq=>Nat.le_trans h (g q hq)
theorem SQ {F S:Nat→Prop}{a b:Nat}(h:a≤b)(g:∀q,F q→b≤q):∀q,F q→q<a→S q:=fun q hq hl=>absurd (Nat.le_trans h (g q hq)) (by omega)
theorem Ai {a b c:Nat}(h:a<b)(g:b≤c):a<c:=Nat.lt_of_lt_of_le h g
theorem Al {F:Nat→Prop}{N b:Nat}(h:∀q,F q→q<N)(hl:N≤b):¬F b:=fun h2=>absurd (h b h2) (by omega)
end
section
variable {P :Program}{f:FuncId}{n:FN}{R:Ending→World→Prop}{k:List Item}{ρ:AV}{w w':World}{S:Nat→Prop}{a b c:World}
theorem jF {x:Operand}{y z:Code}{A B:Prop}(h1:A)(h2:B)(hh:Bx A→Bx B→Aj P f n R (.code (.cond x y z)::k) ρ w:=by
 intro ha_ hb_
 refine Aj.cond rfl (fun hc_=> ?_) (fun hc_=> ?_)
 focus
  try simp only[br]at hc_
  revert hc_
  exact ha_.h
 focus
  try simp only[br]at hc_
  revert hc_
  exact hb_.h):Aj P f n R (.code (.cond x y z)::k) ρ w:=hh ⟨h1⟩ ⟨h2⟩
theorem Ed {x:Operand}{y z:Code}(h:Aj P f n R (.code y::k) ρ w)(hx:rd n ρ x= .bool true:=by rfl):Aj P f n R (.code (.cond x y z)::k) ρ w:=Aj.condT hx h
theorem As.eo {α:Type}[Enc α]{a:Option Addr}{xs:List α}(h:As w a xs)(i:Nat)(hi:i<xs.length:=by first|omega|(simp only[List.length_set];omega)):∃b o x,xs[i]? =some x∧a=some ⟨b,o,none⟩∧Cl w b (o+i*Enc.size α) (cellsOf x):=h.el hi
theorem Ah.n1 {d:Nat}(h:Ah S a b)(k:Ah (one d) b c)(hd:a.heap.size≤d:=by omega):Ah S a c:=h.new k fun x hx=>by rw[show x=d from hx];exact hd
theorem Ah.tf {d:Nat}(h:Ah S a b)(k:Ah (one d) b c)(hd:S d):Ah S a c:=h.trans k fun x _ hx=>by rw[show x=d from hx];exact hd
theorem AA.kp {b d:Nat}{c:List Value}{T:TypeId}(h:AA w b c T)(k:Ah (one d) w w')(hd:¬one d b:=by simp only[one];omega):AA w' b c T:=h.keep k hd
theorem Cl.kp {b d o:Nat}{c:List Value}(h:Cl w b o c)(k:Ah (one d) w w')(hd:¬one d b:=by simp only[one];omega):Cl w' b o c:=h.keep k hd
abbrev jp (b:Nat):Value:= .pointer (some ⟨b,0,none⟩)
end
end Go.Proofs.YtjkaicjmfgekjaaGreatDoor
