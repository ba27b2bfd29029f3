/-
  Mac
-/
import Derived.Test.YtocgdeefgohdhaaGreatPkMake
import Derived.Test.YtocgdeefgohdhaaGreatPkErr
import Derived.Test.YtocgdeefgohdhaaGreatPkCopy
import Derived.Test.YtocgdeefgohdhaaGreatPkPlain
set_option linter.all false
namespace Go.Proofs.YtocgdeefgohdhaaGreat
class Und (P:Program)(t:TypeId)(d:outParam TypeDesc):Prop where
 h:P.underlying t=some d
class Fld (P:Program)(t i:Nat)(off ft:outParam Nat):Prop where
 h:∃fs fd,P.underlying t=some (.struct fs)∧fs[i]? =some fd∧fd.offset=off∧fd.type=ft
theorem Fld.of {P:Program}{t i off ft:Nat}{fs:Array Field}{fd:Field}(h:P.underlying t=some (.struct fs))(h1:fs[i]? =some fd:=by rfl)(h2:fd.offset=off:=by rfl)(h3:fd.type=ft:=by rfl):Fld P t i off ft:=⟨fs,fd,h,h1,h2,h3⟩
class Ent (P:Program)(g:FuncId):Prop where
 h:Enters P g
theorem Ent.of {P:Program}{g:FuncId}{fn:Func}{c:Code}(hf:P.funcs[g]? =some fn)(hb:fn.body=some c:=by rfl)(hn:(fn.name== "runtime.NumGoroutine")=false:=by kernel_rfl):Ent P g:=⟨enters_of hf hb hn⟩
theorem Ty.of {P:Program}{t:TypeId}{size bytes:Nat}{z:Value}{agg:Bool}(h:(P.info? t).map (fun i=>(i.zero,i.size,i.bytes))=some (some z,size,bytes):=by kernel_rfl)
  (h2:(P.underlying t).map aggDesc=some agg:=by kernel_rfl):Ty P t size bytes z agg:=ty_of h h2
theorem mixP {P:Program}(h:(P.follows .mixedOrders)=true):P.follows .mixedOrders=true:=h
section
variable {P :Program}{n:FN}{ρ:Regs}{w:World}{dst:Option Nat}{ty:TypeId}{pos:String}{af:Array Edge}{g:Option (Nat×Bool)}
theorem y_lenSl {t e:TypeId}{x:Operand}{a:Option Addr}{l c:Nat}[u:Und P t (.slice e)](hx:rd n ρ x= .slice a l c):
  X P n ρ ⟨dst,.call {callee:= .builtin .len,args:=#[x],argTypes:=#[t]},ty,pos,af,g⟩ w (.int .i64 (l:Int)) w:=x_lenSl u.h hx
theorem y_fld {t:TypeId}{x:Operand}{b o o' i size bytes off ft:Nat}{z:Value}{agg:Bool}(hx:rd n ρ x= .pointer (some ⟨b,o,none⟩))[u:Fld P t i off ft][e:Ty P ft size bytes z agg]
  (h0:(size==0)=false) (ho:o+off=o'):X P n ρ ⟨dst,.fieldAddr t x i,ty,pos,af,g⟩ w (.pointer (some ⟨b,o',none⟩)) w:=by
 obtain⟨fs,fd,h1,h2,h3,h4⟩:=u.h
 subst h3 h4
 exact x_fld h1 h2 e h0 hx ho
theorem y_fldV {t:TypeId}{x:Operand}{i size bytes off ft:Nat}{z:Value}{cs:Array Value}{v:Value}(hx:rd n ρ x= .agg cs)[u:Fld P t i off ft][e:Ty P ft size bytes z false](hv:cs[off]? =some v):
  X P n ρ ⟨dst,.field t x i,ty,pos,af,g⟩ w v w:=by
 obtain⟨fs,fd,h1,h2,h3,h4⟩:=u.h
 subst h3 h4
 exact x_fldV h1 h2 e hx hv
theorem y_ld {t:TypeId}{x:Operand}{b o size bytes:Nat}{z v:Value}{c:List Value}{T:TypeId}(hx:rd n ρ x= .pointer (some ⟨b,o,none⟩))[e:Ty P t size bytes z false](hb:Blk w b c T)(hc:c[o]? =some v)(hv:v.oneCell'=true):
  X P n ρ ⟨dst,.load t x,ty,pos,af,g⟩ w v w:=x_ld e hx hv (by have:=hb.cl.field hc;rwa[Nat.zero_add]at this)
theorem y_lds {t:TypeId}{x:Operand}{b o size bytes:Nat}{z:Value}{c l:List Value}{T:TypeId}(hx:rd n ρ x= .pointer (some ⟨b,o,none⟩))[e:Ty P t size bytes z true](hb:Blk w b c T)(hc:(c.drop o).take size=l)(hs:l.length=size):
  X P n ρ ⟨dst,.load t x,ty,pos,af,g⟩ w (.agg l.toArray) w:=x_lds e hx (by simpa using hs) (by have:=hb.cl.drop o size;rw[Nat.zero_add,hc]at this;simpa using this)
theorem y_ldE {α:Type}{inst:Enc α}{t:TypeId}{x:Operand}{b o size bytes:Nat}{z v:Value}{agg:Bool}{y:α}(hx:rd n ρ x= .pointer (some ⟨b,o,none⟩))[e:Ty P t size bytes z agg](hc:Cl w b o (cellsOf y))(hv:Enc.val y=v)(hs:size=Enc.size α)(ha:agg=Enc.agg α):
  X P n ρ ⟨dst,.load t x,ty,pos,af,g⟩ w v w:=by subst hs ha;exact x_ldV e hx hc hv
theorem y_idx {t e:TypeId}{x ix:Operand}{a:Option Addr}{b o l c size bytes:Nat}{z:Value}{agg:Bool}{kd:IntKind}{i:Nat}(hx:rd n ρ x= .slice a l c)(hi:rd n ρ ix= .int kd (i:Int))
  [u:Und P t (.slice e)] [s:Ty P e size bytes z agg] (ha:a=some ⟨b,o,none⟩) (h1:i<l):X P n ρ ⟨dst,.indexAddr t x ix,ty,pos,af,g⟩ w (.pointer (some ⟨b,o+i*size,none⟩)) w:=x_idxN u.h s hx hi ha h1
end
section
variable {P :Program}{n:FN}{ρ:Regs}{w w':World}{o:Oper}{v:Value}
theorem Jxa (h:X P n ρ o w v w:=by
 first
 |(apply x_moveI;exact rfl)|(apply x_moveSl;exact rfl)|(apply x_moveP;exact rfl)|(apply x_moveB;exact rfl)
 |(apply x_moveS;exact rfl)|(apply x_moveA;exact rfl)|(apply x_moveT;exact rfl)|(apply x_assignI;exact rfl)
 |(apply x_assignB;exact rfl)|(apply x_assignSl;exact rfl)|(apply x_assignP;exact rfl)|(apply x_assignS;exact rfl)
 |(apply x_assignA;exact rfl)|(apply x_assignT;exact rfl)|(apply y_fld;exact rfl;exact rfl;(first|exact Nat.zero_add _|exact rfl))|(apply x_nilCheck;exact rfl)
 |(apply y_lenSl;exact rfl)|(apply y_ld;exact rfl;assumption;exact rfl;exact rfl)|(apply y_lds;exact rfl;assumption;(first|(simp only[Nat.zero_add,Nat.reduceAdd,List.drop_succ_cons,List.drop_zero,List.take_succ_cons,List.take_zero,List.take_nil];exact(rfl:_=_::_))|exact(rfl:_=[_,_])|exact(rfl:_=[_,_,_])|exact(rfl:_=[_])|exact(rfl:_=[_,_,_,_])|exact(rfl:_=[_,_,_,_,_])|exact rfl);exact rfl)|(apply y_ldE;exact rfl;assumption;exact rfl;exact rfl;exact rfl)
 |(apply litT;apply x_eqI<;>exact rfl;decide)|(apply litF;apply x_eqI<;>exact rfl;decide)|(apply x_eqI<;>exact rfl)
 |(apply litT;apply x_ltI<;>exact rfl;decide)|(apply litF;apply x_ltI<;>exact rfl;decide)|(apply x_ltI<;>exact rfl)
 |(apply litT;apply x_neI<;>exact rfl;decide)|(apply litF;apply x_neI<;>exact rfl;decide)|(apply x_neI<;>exact rfl)
 |(apply litT;apply x_gtI<;>exact rfl;decide)|(apply litF;apply x_gtI<;>exact rfl;decide)|(apply x_gtI<;>exact rfl)
 |(apply litT;apply x_geI<;>exact rfl;decide)|(apply litF;apply x_geI<;>exact rfl;decide)|(apply x_geI<;>exact rfl)
 |(apply litT;apply x_leI<;>exact rfl;decide)|(apply litF;apply x_leI<;>exact rfl;decide)|(apply x_leI<;>exact rfl)
 |(apply x_not;exact rfl)|(apply x_extract;exact rfl;exact rfl)
 |(apply y_idx;exact rfl;exact rfl;assumption;first|omega|(simp only[List.length_set];omega))|(apply y_fldV;exact rfl;exact rfl)|(apply x_moveM;exact rfl)|(apply x_assignM;exact rfl)
 |(apply x_moveF;exact rfl)|(apply x_assignF;exact rfl)|(apply x_moveIf;exact rfl)|(apply x_assignIf;exact rfl)):X P n ρ o w v w:=h
theorem gq {c:Bool}{v x:Value}(hg:c=true)(h:v=gv c x):v=x:=by rw[h];exact gvr hg
theorem Jxg {c:Bool}(h:c=true→X P n ρ o w v w:=by
 intro hg
 first
 |(apply x_moveI;(first|exact rfl|exact gvr hg|exact gvr (andL hg)))|(apply x_moveSl;(first|exact rfl|exact gvr hg|exact gvr (andL hg)))|(apply x_moveP;(first|exact rfl|exact gvr hg|exact gvr (andL hg)))|(apply x_moveB;(first|exact rfl|exact gvr hg|exact gvr (andL hg)))
 |(apply x_moveS;(first|exact rfl|exact gvr hg|exact gvr (andL hg)))|(apply x_moveA;(first|exact rfl|exact gvr hg|exact gvr (andL hg)))|(apply x_moveT;(first|exact rfl|exact gvr hg|exact gvr (andL hg)))|(apply x_assignI;(first|exact rfl|exact gvr hg|exact gvr (andL hg)))
 |(apply x_assignB;(first|exact rfl|exact gvr hg|exact gvr (andL hg)))|(apply x_assignSl;(first|exact rfl|exact gvr hg|exact gvr (andL hg)))|(apply x_assignP;(first|exact rfl|exact gvr hg|exact gvr (andL hg)))|(apply x_assignS;(first|exact rfl|exact gvr hg|exact gvr (andL hg)))
 |(apply x_assignA;(first|exact rfl|exact gvr hg|exact gvr (andL hg)))|(apply x_assignT;(first|exact rfl|exact gvr hg|exact gvr (andL hg)))|(apply y_fld;(first|exact rfl|exact gvr hg|exact gvr (andL hg));exact rfl;(first|exact Nat.zero_add _|exact rfl))|(apply x_nilCheck;(first|exact rfl|exact gvr hg|exact gvr (andL hg)))
 |(apply y_lenSl;(first|exact rfl|exact gvr hg|exact gvr (andL hg)))|(apply y_ld;(first|exact rfl|exact gvr hg|exact gvr (andL hg));assumption;exact rfl;exact rfl)|(apply y_lds;(first|exact rfl|exact gvr hg|exact gvr (andL hg));assumption;(first|(simp only[Nat.zero_add,Nat.reduceAdd,List.drop_succ_cons,List.drop_zero,List.take_succ_cons,List.take_zero,List.take_nil];exact(rfl:_=_::_))|exact(rfl:_=[_,_])|exact(rfl:_=[_,_,_])|exact(rfl:_=[_])|exact(rfl:_=[_,_,_,_])|exact(rfl:_=[_,_,_,_,_])|exact rfl);exact rfl)|(apply y_ldE;(first|exact rfl|exact gvr hg|exact gvr (andL hg));assumption;exact rfl;exact rfl;exact rfl)
 |(apply x_eqI<;>(first|exact rfl|exact gvr hg|exact gvr (andL hg)))|(apply x_ltI<;>(first|exact rfl|exact gvr hg|exact gvr (andL hg)))|(apply x_neI<;>(first|exact rfl|exact gvr hg|exact gvr (andL hg)))|(apply x_gtI<;>(first|exact rfl|exact gvr hg|exact gvr (andL hg)))
 |(apply x_geI<;>(first|exact rfl|exact gvr hg|exact gvr (andL hg)))|(apply x_leI<;>(first|exact rfl|exact gvr hg|exact gvr (andL hg)))|(apply x_not;(first|exact rfl|exact gvr hg|exact gvr (andL hg)))|(apply x_extract;(first|exact rfl|exact gvr hg|exact gvr (andL hg));exact rfl)
 |(apply y_idx;(first|exact rfl|exact gvr hg|exact gvr (andL hg));(first|exact rfl|exact gvr hg|exact gvr (andL hg));assumption;first|omega|(simp only[List.length_set];omega))|(apply y_fldV;(first|exact rfl|exact gvr hg|exact gvr (andL hg));exact rfl)|(apply x_moveM;(first|exact rfl|exact gvr hg|exact gvr (andL hg)))|(apply x_assignM;(first|exact rfl|exact gvr hg|exact gvr (andL hg)))
 |(apply x_moveF;(first|exact rfl|exact gvr hg|exact gvr (andL hg)))|(apply x_assignF;(first|exact rfl|exact gvr hg|exact gvr (andL hg)))|(apply x_moveIf;(first|exact rfl|exact gvr hg|exact gvr (andL hg)))|(apply x_assignIf;(first|exact rfl|exact gvr hg|exact gvr (andL hg)))):c=true→X P n ρ o w v w:=h
end
section
variable {P :Program}{f:FuncId}{n:FN}{R:Ending→World→Prop}{k:List Item}{ops:Array Oper}{rest:List Oper}{ρ:Regs}{w w':World}
variable {dst :Option Nat}{op:Op}{ty:TypeId}{pos:String}{af:Array Edge}{o:Oper}{v:Value}{g:Option (Nat×Bool)}{c:Bool}
theorem jV (hx:X P n ρ ⟨dst,op,ty,pos,af,none⟩ w v w')(h:RL P f n R k ops rest (updo ρ dst v) w'):RL P f n R k ops (⟨dst,op,ty,pos,af,none⟩::rest) ρ w:=RL.val hx h
theorem jW (h:RL P f n R k ops rest (updo ρ dst (gv c v)) w)(hw:Region.wanted ⟨dst,op,ty,pos,af,g⟩ (yielded ops (act n ρ).tmps)=c:=by first|exact wantedT rfl rfl rfl rfl|exact wantedF rfl rfl rfl rfl|exact wantedGT rfl rfl rfl rfl|exact wantedGF rfl rfl rfl rfl)(hx:c=true→X P n ρ ⟨dst,op,ty,pos,af,none⟩ w v w):RL P f n R k ops (⟨dst,op,ty,pos,af,g⟩::rest) ρ w:=RL.gval hw hx h
def lst (m:Nat):Nat→Array Bool
 |0=>Array.replicate m false
 |i+1=>(lst m i).setIfInBounds i true
def drawB (ops:Array Oper):Bool:=((List.range ops.size).all fun i=>takeB ops (lst ops.size i) i)&&(Region.ready .any ops (lst ops.size ops.size)).isEmpty
def RD (P:Program)(f:FuncId)(n:FN)(R:Ending→World→Prop)(k:List Item)(ops:Array Oper):List Oper→Regs→World→Prop
 |[],ρ,w=>Run P f n R k ρ w
 |o::l,ρ,w=>∃c v,Region.wanted o (yielded ops (act n ρ).tmps)=c∧(c=true→X P n ρ {o with guard:=none} w v w)∧RD P f n R k ops l (updo ρ o.dst (gv c v)) w
theorem RD.ra (hb : drawB ops = true) : ∀ (l : List Oper) (i : Nat) (ρ : Regs), ops.toList.drop i = l → RD P f n R k ops l ρ w → RA P f n R k ops (· = w) (ops.size - i) (lst ops.size i) ρ w := by
  simp only [drawB, Bool.and_eq_true, List.all_eq_true, List.mem_range] at hb
  obtain ⟨h1, h2⟩ := hb
  have h2' : Region.ready .any ops (lst ops.size ops.size) = [] := by simpa using h2
  intro l
  induction l with
  | nil =>
    intro i ρ hl h
    have hi : ops.size ≤ i := by simpa using List.drop_eq_nil_iff.1 hl
    have key : ∀ j, lst ops.size (ops.size + j) = lst ops.size ops.size := by
      intro j
      induction j with
      | zero => rfl
      | succ j ih => rw [← Nat.add_assoc, lst, ih]; apply Array.setIfInBounds_eq_of_size_le; have : ∀ m i, (lst m i).size = m := by { intro m i; induction i with | zero => simp [lst] | succ i ih => simp [lst, ih] }; rw [this]; omega
    obtain ⟨j, rfl⟩ : ∃ j, i = ops.size + j := ⟨i - ops.size, by omega⟩
    rw [key]
    exact RA.done h2' h
  | cons o l ih =>
    intro i ρ hl h
    have hi : i < ops.size := by
      rcases Nat.lt_or_ge i ops.size with h | h
      · exact h
      · rw [List.drop_eq_nil_of_le (by simpa using h)] at hl; cases hl
    have ho : ops[i]? = some o := by
      have := congrArg (·[0]?) hl
      simpa using this
    obtain ⟨c, v, hw, hx, hr⟩ := h
    obtain ⟨d, p, t, ps, a, g⟩ := o
    have e : ops.size - i = (ops.size - (i + 1)) + 1 := by omega
    rw [e]
    refine RA.gtake (v := v) (c := c) i ho (h1 i hi) rfl hw (fun hc => by rintro _ rfl; exact hx hc) ?_
    exact ih (i + 1) _ (by rw [← List.drop_drop, hl]; rfl) hr
theorem Run.drawR {id:Nat}(h:∀w',Ext w w'→RD P f n R k ops ops.toList ρ w')(hm:P.follows .mixedOrders=true:=by kernel_rfl)(hb:drawB ops=true:=by kernel_rfl):Run P f n R (.code (.region id ops true)::k) ρ w:=
 Run.draw' hm rfl fun w' K=>RD.ra hb _ 0 _ rfl (h w' K)
theorem RD.nil (h:Run P f n R k ρ w):RD P f n R k ops [] ρ w:=h
theorem jD (hx:X P n ρ ⟨dst,op,ty,pos,af,none⟩ w v w)(h:RD P f n R k ops rest (updo ρ dst v) w):RD P f n R k ops (⟨dst,op,ty,pos,af,none⟩::rest) ρ w:=⟨true,v,rfl,fun _=>hx,h⟩
theorem jE (h:RD P f n R k ops rest (updo ρ dst (gv c v)) w)(hw:Region.wanted ⟨dst,op,ty,pos,af,g⟩ (yielded ops (act n ρ).tmps)=c:=by first|exact wantedT rfl rfl rfl rfl|exact wantedF rfl rfl rfl rfl|exact wantedGT rfl rfl rfl rfl|exact wantedGF rfl rfl rfl rfl)(hx:c=true→X P n ρ ⟨dst,op,ty,pos,af,none⟩ w v w):RD P f n R k ops (⟨dst,op,ty,pos,af,g⟩::rest) ρ w:=⟨c,v,hw,hx,h⟩
end
def schedB (ops : Array Oper) (U : List Nat) : List Nat → Array Bool → Bool
  | [], l => (Region.ready .any ops l).isEmpty
  | c :: r, l => (match c / 1000 with
    | 0 => pureB ops U l (c % 1000)
    | 1 => takeU ops U l (c % 1000)
    | _ => decide (Region.ready .any ops l = [c % 1000])) && schedB ops U r (l.setIfInBounds (c % 1000) true)
def LS (U:List Nat)(l:Array Bool)(S:World→Prop)(w:World):Prop:=lateV U l=true∨S w
def RS (P : Program) (f : FuncId) (n : FN) (R : Ending → World → Prop) (k : List Item) (ops : Array Oper) (S : World → Prop) (U : List Nat) : List Nat → Array Bool → Regs → World → Prop
  | [], _, ρ, w => Run P f n R k ρ w
  | c :: r, l, ρ, w => ∃ o, ops[c % 1000]? = some o ∧ ∃ b v, Region.wanted o (yielded ops (act n ρ).tmps) = b ∧
    ((c / 1000 = 0 ∧ (b = true → ∀ w, X P n ρ { o with guard := none } w v w) ∧ RS P f n R k ops S U r (l.setIfInBounds (c % 1000) true) (updo ρ o.dst (gv b v)) w) ∨
     (c / 1000 = 1 ∧ (b = true → ∀ w, S w → X P n ρ { o with guard := none } w v w) ∧ RS P f n R k ops S U r (l.setIfInBounds (c % 1000) true) (updo ρ o.dst (gv b v)) w) ∨
     (2 ≤ c / 1000 ∧ (b = true → St1 P f n R k { o with guard := none } ρ w (fun ρ' w' => LS U (l.setIfInBounds (c % 1000) true) S w' ∧ RS P f n R k ops S U r (l.setIfInBounds (c % 1000) true) ρ' w')) ∧
      (b = false → LS U (l.setIfInBounds (c % 1000) true) S w ∧ RS P f n R k ops S U r (l.setIfInBounds (c % 1000) true) (updo ρ o.dst undef) w)))
section
variable {P :Program}{f:FuncId}{n:FN}{R:Ending→World→Prop}{k:List Item}{ops:Array Oper}{rest:List Oper}{ρ:Regs}{w w':World}
variable {dst :Option Nat}{op:Op}{ty:TypeId}{pos:String}{af:Array Edge}{o:Oper}{v:Value}{g:Option (Nat×Bool)}{c:Bool}{S:World→Prop}{U:List Nat}{q:Nat}{r:List Nat}{l:Array Bool}
theorem lateV_pure {i:Nat}(h:pureB ops U l i=true):lateV U (l.setIfInBounds i true)=lateV U l:=by
 simp only[pureB,Bool.and_eq_true]at h
 exact lateV_set (by simpa using h.2)
theorem lateV_take {i:Nat}(h:takeU ops U l i=true):lateV U l=false∧lateV U (l.setIfInBounds i true)=lateV U l:=by
 simp only[takeU,Bool.and_eq_true,Bool.not_eq_true',vB]at h
 exact⟨h.2,lateV_set (by simpa using h.1.2.1)⟩
theorem RS.rt : ∀ (sch : List Nat) (fuel : Nat) (l : Array Bool) (ρ : Regs) (w : World), schedB ops U sch l = true → sch.length ≤ fuel → (lateV U l = true ∨ S w) → RS P f n R k ops S U sch l ρ w → RT P f n R k ops S U fuel l ρ w := by
  intro sch
  induction sch with
  | nil => intro fuel l ρ w hb _ _ h; exact RT.done (by simpa [schedB] using hb) h
  | cons q r ih =>
    intro fuel l ρ w hb hf hS h
    obtain ⟨o, ho, b, v, hw, h⟩ := h
    rw [schedB, Bool.and_eq_true] at hb
    obtain ⟨hb, hr⟩ := hb
    obtain ⟨m, rfl⟩ : ∃ m, fuel = m + 1 := ⟨fuel - 1, by simp only [List.length_cons] at hf; omega⟩
    have hf' : r.length ≤ m := by simp only [List.length_cons] at hf; omega
    obtain ⟨d, p, t, ps, a, g⟩ := o
    rcases h with ⟨hk, hx, h⟩ | ⟨hk, hx, h⟩ | ⟨hk, hx, h⟩
    · rw [hk] at hb
      exact RT.gtakeP (v := v) (c := b) _ ho hb hS hw hx (ih m _ _ _ hr hf' (by rw [lateV_pure hb]; exact hS) h)
    · rw [hk] at hb
      have hS' : S w := hS.resolve_left (by rw [(lateV_take hb).1]; decide)
      exact RT.gtake (v := v) (c := b) _ ho hb hS' hw hx (ih m _ _ _ hr hf' (.inr hS') h)
    · have hb' : Region.ready .any ops l = [q % 1000] := by
        have : q / 1000 ≠ 0 ∧ q / 1000 ≠ 1 := by omega
        revert hb
        split
        · rename_i e; exact absurd e this.1
        · rename_i e; exact absurd e this.2
        · intro hb; simpa using hb
      cases b with
      | true =>
        refine RT.one _ ho hb' ?_
        unfold wpOp
        simp only [ho, hw, if_true]
        have h3 : Oper.wp P ⟨d, p, t, ps, a, none⟩ (act n ρ) w (fun a' w' => ∃ ρ', a' = act n ρ' ∧ (lateV U (l.setIfInBounds (q % 1000) true) = true ∨ S w') ∧ RT P f n R k ops S U m (l.setIfInBounds (q % 1000) true) ρ' w') (Post P f n R k) := by
          refine Oper.wp_mono ?_ (hx rfl)
          rintro a' w' ⟨ρ', rfl, h1, h2⟩
          exact ⟨ρ', rfl, h1, ih m _ _ _ hr hf' h1 h2⟩
        exact .inl h3
      | false =>
        obtain ⟨h1, h2⟩ := h rfl
        exact RT.gT _ ho hb' hw h1 (ih m _ _ _ hr hf' h1 h2)
theorem Run.drawS {id:Nat}(U:List Nat)(sch:List Nat)(h:∀w',Ext w w'→∃S,S w'∧RS P f n R k ops S U sch (Array.replicate ops.size false) ρ w')(hm:P.follows .mixedOrders=true:=by kernel_rfl)
  (hb:(schedB ops U sch (Array.replicate ops.size false)&&Nat.ble sch.length ops.size)=true:=by kernel_rfl):Run P f n R (.code (.region id ops true)::k) ρ w:=by
 rw[Bool.and_eq_true]at hb
 refine Run.drawT U hm rfl fun w' K=> ?_
 obtain⟨S,hS,h⟩:=h w' K
 exact⟨S,RS.rt sch _ _ _ _ hb.1 (Nat.le_of_ble_eq_true hb.2) (.inr hS) h⟩
structure HS (S:World→Prop)(w:World):Prop where
 h:S w
theorem Jn :HS (fun _=>True) w:=⟨trivial⟩
theorem jb {b:Nat}{c:List Value}{T:TypeId}(h:Blk w b c T)(r:HS S w):HS (fun w'=>Blk w' b c T∧S w') w:=⟨⟨h,r.h⟩⟩
theorem jl {b o:Nat}{c:List Value}(h:Cl w b o c)(r:HS S w):HS (fun w'=>Cl w' b o c∧S w') w:=⟨⟨h,r.h⟩⟩
theorem jM (hS:HS S w)(h:RS P f n R k ops S U r l ρ w):∃S,S w∧RS P f n R k ops S U r l ρ w:=⟨S,hS.h,h⟩
theorem RS.nil (h:Run P f n R k ρ w):RS P f n R k ops S U [] l ρ w:=h
theorem jP (h:RS P f n R k ops S U r (l.setIfInBounds (q%1000) true) (updo ρ dst v) w)(hi:ops[q%1000]? =some ⟨dst,op,ty,pos,af,none⟩:=by rfl)(hk:q/1000=0:=by rfl)(hx:∀w,X P n ρ ⟨dst,op,ty,pos,af,none⟩ w v w):RS P f n R k ops S U (q::r) l ρ w:=⟨_,hi,true,v,rfl,.inl ⟨hk,fun _=>hx,h⟩⟩
theorem jQ (h:RS P f n R k ops S U r (l.setIfInBounds (q%1000) true) (updo ρ dst (gv c v)) w)(hi:ops[q%1000]? =some ⟨dst,op,ty,pos,af,g⟩:=by rfl)(hk:q/1000=0:=by rfl)(hw:Region.wanted ⟨dst,op,ty,pos,af,g⟩ (yielded ops (act n ρ).tmps)=c:=by first|exact wantedT rfl rfl rfl rfl|exact wantedF rfl rfl rfl rfl|exact wantedGT rfl rfl rfl rfl|exact wantedGF rfl rfl rfl rfl)(hx:∀w,c=true→X P n ρ ⟨dst,op,ty,pos,af,none⟩ w v w):RS P f n R k ops S U (q::r) l ρ w:=⟨_,hi,c,v,hw,.inl ⟨hk,fun hc w=>hx w hc,h⟩⟩
theorem ks0 (h:RS P f n R k ops S U r (l.setIfInBounds (q%1000) true) (updo ρ dst undef) w)(hi:ops[q%1000]? =some ⟨dst,op,ty,pos,af,g⟩:=by rfl)(hk:Nat.blt (q/1000) 2=true:=by rfl)
  (hw:Region.wanted ⟨dst,op,ty,pos,af,g⟩ (yielded ops (act n ρ).tmps)=false:=by first|exact wantedT0 rfl rfl rfl rfl|exact wantedF0 rfl rfl rfl rfl|exact wanted_undef rfl rfl rfl rfl):RS P f n R k ops S U (q::r) l ρ w:=by
 have hk':q/1000=0∨q/1000=1:=by have:=Nat.le_of_ble_eq_true hk;omega
 rcases hk' with hk|hk
 ·exact⟨_,hi,false,undef,hw,.inl ⟨hk,fun e=>(by cases e),h⟩⟩
 ·exact⟨_,hi,false,undef,hw,.inr (.inl ⟨hk,fun e=>(by cases e),h⟩)⟩
theorem kd0 (h:RD P f n R k ops rest (updo ρ dst undef) w)(hw:Region.wanted ⟨dst,op,ty,pos,af,g⟩ (yielded ops (act n ρ).tmps)=false:=by first|exact wantedT0 rfl rfl rfl rfl|exact wantedF0 rfl rfl rfl rfl|exact wanted_undef rfl rfl rfl rfl):RD P f n R k ops (⟨dst,op,ty,pos,af,g⟩::rest) ρ w:=⟨false,undef,hw,fun e=>(by cases e),h⟩
theorem kv0 (h:RL P f n R k ops rest (updo ρ dst undef) w)(hw:Region.wanted ⟨dst,op,ty,pos,af,g⟩ (yielded ops (act n ρ).tmps)=false:=by first|exact wantedT0 rfl rfl rfl rfl|exact wantedF0 rfl rfl rfl rfl|exact wanted_undef rfl rfl rfl rfl):RL P f n R k ops (⟨dst,op,ty,pos,af,g⟩::rest) ρ w:=RL.guardF hw h
theorem jH (h:RS P f n R k ops S U r (l.setIfInBounds (q%1000) true) (updo ρ dst v) w)(hi:ops[q%1000]? =some ⟨dst,op,ty,pos,af,none⟩:=by rfl)(hk:q/1000=1:=by rfl)(hx:∀w,S w→X P n ρ ⟨dst,op,ty,pos,af,none⟩ w v w):RS P f n R k ops S U (q::r) l ρ w:=⟨_,hi,true,v,rfl,.inr (.inl ⟨hk,fun _=>hx,h⟩)⟩
theorem jI (h:RS P f n R k ops S U r (l.setIfInBounds (q%1000) true) (updo ρ dst (gv c v)) w)(hi:ops[q%1000]? =some ⟨dst,op,ty,pos,af,g⟩:=by rfl)(hk:q/1000=1:=by rfl)(hw:Region.wanted ⟨dst,op,ty,pos,af,g⟩ (yielded ops (act n ρ).tmps)=c:=by first|exact wantedT rfl rfl rfl rfl|exact wantedF rfl rfl rfl rfl|exact wantedGT rfl rfl rfl rfl|exact wantedGF rfl rfl rfl rfl)(hx:c=true→∀w,S w→X P n ρ ⟨dst,op,ty,pos,af,none⟩ w v w):RS P f n R k ops S U (q::r) l ρ w:=⟨_,hi,c,v,hw,.inr (.inl ⟨hk,hx,h⟩)⟩
theorem jU (hi:ops[q%1000]? =some ⟨dst,op,ty,pos,af,none⟩)(h:St1 P f n R k ⟨dst,op,ty,pos,af,none⟩ ρ w (fun ρ' w'=>LS U (l.setIfInBounds (q%1000) true) S w'∧RS P f n R k ops S U r (l.setIfInBounds (q%1000) true) ρ' w'))(hk:2≤q/1000:=by decide):RS P f n R k ops S U (q::r) l ρ w:=⟨_,hi,true,undef,rfl,.inr (.inr ⟨hk,fun _=>h,fun e=>(by cases e)⟩)⟩
theorem jX (hi:ops[q%1000]? =some ⟨dst,op,ty,pos,af,g⟩)(h:St1 P f n R k ⟨dst,op,ty,pos,af,none⟩ ρ w (fun ρ' w'=>LS U (l.setIfInBounds (q%1000) true) S w'∧RS P f n R k ops S U r (l.setIfInBounds (q%1000) true) ρ' w'))(hk:2≤q/1000:=by decide)(hw:Region.wanted ⟨dst,op,ty,pos,af,g⟩ (yielded ops (act n ρ).tmps)=true:=by first|exact wantedT1 rfl rfl rfl rfl|exact wantedF1 rfl rfl rfl rfl):RS P f n R k ops S U (q::r) l ρ w:=⟨_,hi,true,undef,hw,.inr (.inr ⟨hk,fun _=>h,fun e=>(by cases e)⟩)⟩
theorem jY (h:LS U (l.setIfInBounds (q%1000) true) S w∧RS P f n R k ops S U r (l.setIfInBounds (q%1000) true) (updo ρ dst undef) w)(hi:ops[q%1000]? =some ⟨dst,op,ty,pos,af,g⟩:=by rfl)(hk:2≤q/1000:=by decide)
  (hw:Region.wanted ⟨dst,op,ty,pos,af,g⟩ (yielded ops (act n ρ).tmps)=false:=by first|exact wantedT0 rfl rfl rfl rfl|exact wantedF0 rfl rfl rfl rfl|exact wanted_undef rfl rfl rfl rfl):RS P f n R k ops S U (q::r) l ρ w:=⟨_,hi,false,undef,hw,.inr (.inr ⟨hk,fun e=>(by cases e),fun _=>h⟩)⟩
theorem jZ {c:Bool}{g:FuncId}{ol:List Operand}{ts:Array TypeId}{vals:List Value}{v:Value}{gd:Option (Nat×Bool)}(hc:c=true→Calls P g vals.toArray w (Ret fun u w'=>u=v∧Ext w w'))
  (h:∀w',Ext w w'→LS U (l.setIfInBounds (q%1000) true) S w'∧RS P f n R k ops S U r (l.setIfInBounds (q%1000) true) (updo ρ dst (gv c v)) w') [he:Ent P g]
  (hi:ops[q%1000]? =some ⟨dst,.call {callee:= .value (.func g),args:=ol.toArray,argTypes:=ts},ty,pos,af,gd⟩:=by rfl) (hk:2≤q/1000:=by decide)
  (hw:Region.wanted ⟨dst,.call {callee:= .value (.func g),args:=ol.toArray,argTypes:=ts},ty,pos,af,gd⟩ (yielded ops (act n ρ).tmps)=c:=by first|exact wantedT rfl rfl rfl rfl|exact wantedF rfl rfl rfl rfl|exact wantedGT rfl rfl rfl rfl|exact wantedGF rfl rfl rfl rfl)
  (ha:c=true→ol.map (rd n ρ)=vals:=by intro hg;first|rfl|(repeat (first|exact mnil|refine mcons (by first|rfl|exact gvr hg|exact gvr (andL hg)) ?_))):RS P f n R k ops S U (q::r) l ρ w:=by
 refine⟨_,hi,c,v,hw,.inr (.inr ⟨hk,fun hc1=> ?_,fun hc0=> ?_⟩)⟩
 ·subst hc1;exact St1.call he.h (ha rfl) (hc rfl) fun u w' hu=>by rw[hu.1];exact h w' hu.2
 ·subst hc0;exact h w (Keeps.refl _ w)
theorem Kvx (hx:X P n ρ ⟨dst,op,ty,pos,af,none⟩ w v w')(h:RL P f n R k ops rest (updo ρ dst v) w'):RL P f n R k ops (⟨dst,op,ty,pos,af,none⟩::rest) ρ w:=RL.val hx h
theorem Kdx (hx:X P n ρ ⟨dst,op,ty,pos,af,none⟩ w v w)(h:RD P f n R k ops rest (updo ρ dst v) w):RD P f n R k ops (⟨dst,op,ty,pos,af,none⟩::rest) ρ w:=⟨true,v,rfl,fun _=>hx,h⟩
theorem Ksx (hi:ops[q%1000]? =some ⟨dst,op,ty,pos,af,none⟩)(hk:q/1000=0)(hx:∀w,X P n ρ ⟨dst,op,ty,pos,af,none⟩ w v w)(h:RS P f n R k ops S U r (l.setIfInBounds (q%1000) true) (updo ρ dst v) w):RS P f n R k ops S U (q::r) l ρ w:=⟨_,hi,true,v,rfl,.inl ⟨hk,fun _=>hx,h⟩⟩
theorem Khx (hi:ops[q%1000]? =some ⟨dst,op,ty,pos,af,none⟩)(hk:q/1000=1)(hx:∀w,S w→X P n ρ ⟨dst,op,ty,pos,af,none⟩ w v w)(h:RS P f n R k ops S U r (l.setIfInBounds (q%1000) true) (updo ρ dst v) w):RS P f n R k ops S U (q::r) l ρ w:=⟨_,hi,true,v,rfl,.inr (.inl ⟨hk,fun _=>hx,h⟩)⟩
theorem Kvg (hw:Region.wanted ⟨dst,op,ty,pos,af,g⟩ (yielded ops (act n ρ).tmps)=c)(hx:c=true→X P n ρ ⟨dst,op,ty,pos,af,none⟩ w v w)(h:RL P f n R k ops rest (updo ρ dst (gv c v)) w):RL P f n R k ops (⟨dst,op,ty,pos,af,g⟩::rest) ρ w:=RL.gval hw hx h
theorem Kdg (hw:Region.wanted ⟨dst,op,ty,pos,af,g⟩ (yielded ops (act n ρ).tmps)=c)(hx:c=true→X P n ρ ⟨dst,op,ty,pos,af,none⟩ w v w)(h:RD P f n R k ops rest (updo ρ dst (gv c v)) w):RD P f n R k ops (⟨dst,op,ty,pos,af,g⟩::rest) ρ w:=⟨c,v,hw,hx,h⟩
theorem Ksg (hi:ops[q%1000]? =some ⟨dst,op,ty,pos,af,g⟩)(hk:q/1000=0)(hw:Region.wanted ⟨dst,op,ty,pos,af,g⟩ (yielded ops (act n ρ).tmps)=c)(hx:∀w,c=true→X P n ρ ⟨dst,op,ty,pos,af,none⟩ w v w)(h:RS P f n R k ops S U r (l.setIfInBounds (q%1000) true) (updo ρ dst (gv c v)) w):RS P f n R k ops S U (q::r) l ρ w:=⟨_,hi,c,v,hw,.inl ⟨hk,fun hc w=>hx w hc,h⟩⟩
theorem Khg (hi:ops[q%1000]? =some ⟨dst,op,ty,pos,af,g⟩)(hk:q/1000=1)(hw:Region.wanted ⟨dst,op,ty,pos,af,g⟩ (yielded ops (act n ρ).tmps)=c)(hx:∀w,S w→c=true→X P n ρ ⟨dst,op,ty,pos,af,none⟩ w v w)(h:RS P f n R k ops S U r (l.setIfInBounds (q%1000) true) (updo ρ dst (gv c v)) w):RS P f n R k ops S U (q::r) l ρ w:=⟨_,hi,c,v,hw,.inr (.inl ⟨hk,fun hc w hS=>hx w hS hc,h⟩)⟩
theorem Ks0 (hi:ops[q%1000]? =some ⟨dst,op,ty,pos,af,g⟩)(hk:Nat.blt (q/1000) 2=true)(hw:Region.wanted ⟨dst,op,ty,pos,af,g⟩ (yielded ops (act n ρ).tmps)=false)(h:RS P f n R k ops S U r (l.setIfInBounds (q%1000) true) (updo ρ dst undef) w):RS P f n R k ops S U (q::r) l ρ w:=ks0 h hi hk hw
theorem Kd0 (hw:Region.wanted ⟨dst,op,ty,pos,af,g⟩ (yielded ops (act n ρ).tmps)=false)(h:RD P f n R k ops rest (updo ρ dst undef) w):RD P f n R k ops (⟨dst,op,ty,pos,af,g⟩::rest) ρ w:=⟨false,undef,hw,fun e=>(by cases e),h⟩
theorem Kv0 (hw:Region.wanted ⟨dst,op,ty,pos,af,g⟩ (yielded ops (act n ρ).tmps)=false)(h:RL P f n R k ops rest (updo ρ dst undef) w):RL P f n R k ops (⟨dst,op,ty,pos,af,g⟩::rest) ρ w:=RL.guardF hw h
theorem Krs (hS:lateV U l=true∨S w)(h:RS P f n R k ops S U r l ρ w):LS U l S w∧RS P f n R k ops S U r l ρ w:=⟨hS,h⟩
structure Bx (B:Prop):Prop where
 h:B
theorem Jct {A B:Prop}(h:B)(hh:Bx B→A:=by
 intro hb_
 repeat first
 |apply RL.nil|apply Run.seq|apply Run.region|apply RS.nil|apply RD.nil|apply Run.skip|apply Run.inBlock|apply Run.block|(apply Run.exit;exact rfl)|apply Run.label|(apply Run.goto;exact rfl)|apply Run.scope|apply Run.inScope
 |(apply Krs;focus (first|(refine .inr ?_;(repeat (first|exact trivial|refine⟨by assumption,?_⟩));done)|exact .inl (by kernel_rfl)))
 exact hb_.h):A:=hh ⟨h⟩
theorem Jop {A B:Prop}(h:B)(hh:Bx B→A:=by
 intro hb_
 first
 |(apply Kvx;exact Jxa)|(apply Ksx;exact rfl;exact rfl;(intro _;exact Jxa))|(apply Kdx;exact Jxa)
 |(apply Khx;exact rfl;exact rfl;((intro _ hS_;repeat (have:=hS_.1;replace hS_:=hS_.2));exact Jxa))
 |(apply Ks0;exact rfl;exact rfl;(first|exact wantedT0 rfl rfl rfl rfl|exact wantedF0 rfl rfl rfl rfl|exact wanted_undef rfl rfl rfl rfl))|(apply Kv0;(first|exact wantedT0 rfl rfl rfl rfl|exact wantedF0 rfl rfl rfl rfl|exact wanted_undef rfl rfl rfl rfl))|(apply Kd0;(first|exact wantedT0 rfl rfl rfl rfl|exact wantedF0 rfl rfl rfl rfl|exact wanted_undef rfl rfl rfl rfl))
 |(apply Ksg;exact rfl;exact rfl;(first|exact wantedT rfl rfl rfl rfl|exact wantedF rfl rfl rfl rfl|exact wantedGT rfl rfl rfl rfl|exact wantedGF rfl rfl rfl rfl);(intro _;exact Jxg))|(apply Kvg;(first|exact wantedT rfl rfl rfl rfl|exact wantedF rfl rfl rfl rfl|exact wantedGT rfl rfl rfl rfl|exact wantedGF rfl rfl rfl rfl);exact Jxg)|(apply Kdg;(first|exact wantedT rfl rfl rfl rfl|exact wantedF rfl rfl rfl rfl|exact wantedGT rfl rfl rfl rfl|exact wantedGF rfl rfl rfl rfl);exact Jxg)
 |(apply Khg;exact rfl;exact rfl;(first|exact wantedT rfl rfl rfl rfl|exact wantedF rfl rfl rfl rfl|exact wantedGT rfl rfl rfl rfl|exact wantedGF rfl rfl rfl rfl);((intro _ hS_;repeat (have:=hS_.1;replace hS_:=hS_.2));exact Jxg))
 exact hb_.h):A:=hh ⟨h⟩
theorem jG {A B:Prop}(h:B)(hh:Bx B→A:=by
 intro hb_
 repeat first
 |(apply Kvx;exact Jxa)|apply RL.nil|apply Run.seq|apply Run.region|apply RS.nil|apply RD.nil|apply Run.skip|apply Run.inBlock|apply Run.block|(apply Run.exit;exact rfl)|apply Run.label|(apply Run.goto;exact rfl)|apply Run.scope|apply Run.inScope
 |(apply Krs;focus (first|(refine .inr ?_;(repeat (first|exact trivial|refine⟨by assumption,?_⟩));done)|exact .inl (by kernel_rfl)))
 |(apply Ksx;exact rfl;exact rfl;(intro _;exact Jxa))|(apply Kdx;exact Jxa)
 |(apply Khx;exact rfl;exact rfl;((intro _ hS_;repeat (have:=hS_.1;replace hS_:=hS_.2));exact Jxa))
 |(apply Ks0;exact rfl;exact rfl;(first|exact wantedT0 rfl rfl rfl rfl|exact wantedF0 rfl rfl rfl rfl|exact wanted_undef rfl rfl rfl rfl))|(apply Kv0;(first|exact wantedT0 rfl rfl rfl rfl|exact wantedF0 rfl rfl rfl rfl|exact wanted_undef rfl rfl rfl rfl))|(apply Kd0;(first|exact wantedT0 rfl rfl rfl rfl|exact wantedF0 rfl rfl rfl rfl|exact wanted_undef rfl rfl rfl rfl))
 |(apply Ksg;exact rfl;exact rfl;(first|exact wantedT rfl rfl rfl rfl|exact wantedF rfl rfl rfl rfl|exact wantedGT rfl rfl rfl rfl|exact wantedGF rfl rfl rfl rfl);(intro _;exact Jxg))|(apply Kvg;(first|exact wantedT rfl rfl rfl rfl|exact wantedF rfl rfl rfl rfl|exact wantedGT rfl rfl rfl rfl|exact wantedGF rfl rfl rfl rfl);exact Jxg)|(apply Kdg;(first|exact wantedT rfl rfl rfl rfl|exact wantedF rfl rfl rfl rfl|exact wantedGT rfl rfl rfl rfl|exact wantedGF rfl rfl rfl rfl);exact Jxg)
 |(apply Khg;exact rfl;exact rfl;(first|exact wantedT rfl rfl rfl rfl|exact wantedF rfl rfl rfl rfl|exact wantedGT rfl rfl rfl rfl|exact wantedGF rfl rfl rfl rfl);((intro _ hS_;repeat (have:=hS_.1;replace hS_:=hS_.2));exact Jxg))
 exact hb_.h):A:=hh ⟨h⟩
theorem jG1 {A B:Prop}(h:B)(hh:Bx B→A:=by(intro hb_;refine Jct ?_;refine Jop ?_;refine Jct ?_;exact hb_.h)):A:=hh ⟨h⟩
theorem jG2 {A B:Prop}(h:B)(hh:Bx B→A:=by(intro hb_;refine jG1 ?_;refine jG1 ?_;exact hb_.h)):A:=hh ⟨h⟩
theorem jG4 {A B:Prop}(h:B)(hh:Bx B→A:=by(intro hb_;refine jG2 ?_;refine jG2 ?_;exact hb_.h)):A:=hh ⟨h⟩
theorem jG8 {A B:Prop}(h:B)(hh:Bx B→A:=by(intro hb_;refine jG4 ?_;refine jG4 ?_;exact hb_.h)):A:=hh ⟨h⟩
variable {K :Regs→World→Prop}
theorem jR (h:St1 P f n R k ⟨dst,op,ty,pos,af,none⟩ ρ w (RL P f n R k ops rest)):RL P f n R k ops (⟨dst,op,ty,pos,af,none⟩::rest) ρ w:=RL.st rfl h
theorem jT (h:St1 P f n R k ⟨dst,op,ty,pos,af,none⟩ ρ w (RL P f n R k ops rest))(hw:Region.wanted ⟨dst,op,ty,pos,af,g⟩ (yielded ops (act n ρ).tmps)=true:=by first|exact wantedT1 rfl rfl rfl rfl|exact wantedF1 rfl rfl rfl rfl):RL P f n R k ops (⟨dst,op,ty,pos,af,g⟩::rest) ρ w:=RL.gst hw h
theorem jO (hx:X P n ρ ⟨dst,op,ty,pos,af,none⟩ w v w')(h:K (updo ρ dst v) w'):St1 P f n R k ⟨dst,op,ty,pos,af,none⟩ ρ w K:=St1.val hx h
theorem Jvl {x:Value}(h:v=x:=by first|exact(rfl:_=Value.int _ _)|exact(rfl:_=Value.pointer _)|exact(rfl:_=Value.slice _ _ _)|exact(rfl:_=Value.bool _)|exact(rfl:_=Value.string _)|exact(rfl:_=Value.agg _)|exact(rfl:_=Value.iface _ _)|exact(rfl:_=Value.map _)|exact(rfl:_=Value.func _ _ _)|rfl):v=x:=h
theorem Jlc {l cs:List Value}(h:l=cs:=by first|exact(rfl:_=_::_)|rfl):l=cs:=h
theorem jB {e:TypeId}{x:Operand}{v:Value}{cs:List Value}(h:∀b w',w.heap.size≤b→Blk w' b cs e→Ext w w'→K (updo ρ dst (.pointer (some ⟨b,0,none⟩))) w')(hx:rd n ρ x=v:=by exact Jvl)(hc:v.cells.toList=cs:=by exact Jlc):
  St1 P f n R k ⟨dst,.box e x,ty,pos,af,none⟩ ρ w K:=by subst hc;exact St1.box hx h
theorem jA {e:TypeId}{size bytes:Nat}{z:Value}{agg:Bool}{cs:List Value}[he:Ty P e size bytes z agg](h:∀b w',w.heap.size≤b→Blk w' b cs e→Ext w w'→K (updo ρ dst (.pointer (some ⟨b,0,none⟩))) w')(hc:z.cells.toList=cs:=by exact Jlc):
  St1 P f n R k ⟨dst,.alloc e,ty,pos,af,none⟩ ρ w K:=by subst hc;exact St1.alloc he h
theorem jS {t:TypeId}{x y:Operand}{b o size bytes:Nat}{z v:Value}{agg:Bool}{c vs c':List Value}{T:TypeId}(hb:Blk w b c T)(h:∀w',Blk w' b c' T→Keeps (one b) w w'→K ρ w')(hx:rd n ρ x= .pointer (some ⟨b,o,none⟩):=by rfl)[he:Ty P t size bytes z agg]
  (hy:rd n ρ y=v:=by exact Jvl) (hv:v.cells.toList=vs:=by exact Jlc) (hs:vs.length=size:=by rfl) (h1:vs.all (fun u=>u.oneCell')=true:=by rfl)
  (hfit:Nat.ble (o+size) c.length=true:=by rfl) (hc:c.take o++vs++c.drop (o+size)=c':=by first|(simp only[List.take_succ_cons,List.take_zero,List.drop_succ_cons,List.drop_zero,List.drop_nil,List.cons_append,List.nil_append,List.append_nil,Nat.reduceAdd,Nat.zero_add];exact(rfl:_=_::_))|exact rfl):
  St1 P f n R k ⟨none,.store t x y,ty,pos,af,none⟩ ρ w K:=by
 subst hv hc
 exact St1.store he hx hy (by simpa using hs) (fun u hu=>List.all_eq_true.1 h1 u hu) hb (Nat.le_of_ble_eq_true hfit) h
theorem jC {g:FuncId}{ol:List Operand}{ts:Array TypeId}{vals:List Value}{Φ:Value→World→Prop}(hc:Calls P g vals.toArray w (Ret Φ))(h:∀v w',Φ v w'→K (updo ρ dst v) w')[he:Ent P g](ha:ol.map (rd n ρ)=vals:=by rfl):
  St1 P f n R k ⟨dst,.call {callee:= .value (.func g),args:=ol.toArray,argTypes:=ts},ty,pos,af,none⟩ ρ w K:=St1.call he.h ha hc h
end
section
variable {P :Program}{f:FuncId}{R:Ending→World→Prop}{k:List Item}{ρ:Regs}{w:World}{m:Nat}
theorem jJ {fn:Func}{t:Nat}{v:Value}(hf:P.funcs[f]? =some fn)(h:R (.returned v) w)(hr:fn.results=#[.tmp t]:=by rfl)(hv:rd ⟨m,[]⟩ ρ (.tmp t)=v:=by exact Jvl):Run P f ⟨m,[]⟩ R (.code .ret::k) ρ w:=Run.ret1 hf hr hv h
theorem jK {fn:Func}{t u:Nat}{v x:Value}(hf:P.funcs[f]? =some fn)(h:R (.returned (.tuple #[v,x])) w)(hr:fn.results=#[.tmp t,.tmp u]:=by rfl)(hv:rd ⟨m,[]⟩ ρ (.tmp t)=v:=by exact Jvl)(hx:rd ⟨m,[]⟩ ρ (.tmp u)=x:=by exact Jvl):Run P f ⟨m,[]⟩ R (.code .ret::k) ρ w:=Run.ret2 hf hr hv hx h
theorem noOne {F:Nat→Prop}{b:Nat}(h:¬F b):∀q,F q→¬one b q:=fun q hq e=>h (by rw[←show q=b from e];exact hq)
theorem geTr {F:Nat→Prop}{a b:Nat}(h:a≤b)(g:∀q,F q→b≤q):∀q,F q→a≤q:=fun q hq=>Nat.le_trans h (g q hq)
theorem geNo {F S:Nat→Prop}{a b:Nat}(h:a≤b)(g:∀q,F q→b≤q):∀q,F q→q<a→S q:=fun q hq hl=>absurd (Nat.le_trans h (g q hq)) (by omega)
theorem ltLe {a b c:Nat}(h:a<b)(g:b≤c):a<c:=Nat.lt_of_lt_of_le h g
theorem ltNo {F:Nat→Prop}{N b:Nat}(h:∀q,F q→q<N)(hl:N≤b):¬F b:=fun h2=>absurd (h b h2) (by omega)
end
section
variable {P :Program}{f:FuncId}{n:FN}{R:Ending→World→Prop}{k:List Item}{ρ:Regs}{w w':World}{S:Nat→Prop}{a b c:World}
theorem jF {x:Operand}{y z:Code}{A B:Prop}(h1:A)(h2:B)(hh:Bx A→Bx B→Run P f n R (.code (.cond x y z)::k) ρ w:=by
 intro ha_ hb_
 refine Run.cond rfl (fun hc_=> ?_) (fun hc_=> ?_)
 focus
  try simp only[br]at hc_
  revert hc_
  exact ha_.h
 focus
  try simp only[br]at hc_
  revert hc_
  exact hb_.h):Run P f n R (.code (.cond x y z)::k) ρ w:=hh ⟨h1⟩ ⟨h2⟩
theorem jT1 {x:Operand}{y z:Code}(h:Run P f n R (.code y::k) ρ w)(hx:rd n ρ x= .bool true:=by rfl):Run P f n R (.code (.cond x y z)::k) ρ w:=Run.condT hx h
theorem SlOf.eo {α:Type}[Enc α]{a:Option Addr}{xs:List α}(h:SlOf w a xs)(i:Nat)(hi:i<xs.length:=by first|omega|(simp only[List.length_set];omega)):∃b o x,xs[i]? =some x∧a=some ⟨b,o,none⟩∧Cl w b (o+i*Enc.size α) (cellsOf x):=h.el hi
theorem Keeps.n1 {d:Nat}(h:Keeps S a b)(k:Keeps (one d) b c)(hd:a.heap.size≤d:=by omega):Keeps S a c:=h.new k fun x hx=>by rw[show x=d from hx];exact hd
theorem Keeps.tf {d:Nat}(h:Keeps S a b)(k:Keeps (one d) b c)(hd:S d):Keeps S a c:=h.trans k fun x _ hx=>by rw[show x=d from hx];exact hd
theorem Blk.kp {b d:Nat}{c:List Value}{T:TypeId}(h:Blk w b c T)(k:Keeps (one d) w w')(hd:¬one d b:=by simp only[one];omega):Blk w' b c T:=h.keep k hd
theorem Cl.kp {b d o:Nat}{c:List Value}(h:Cl w b o c)(k:Keeps (one d) w w')(hd:¬one d b:=by simp only[one];omega):Cl w' b o c:=h.keep k hd
abbrev jp (b:Nat):Value:= .pointer (some ⟨b,0,none⟩)
end
end Go.Proofs.YtocgdeefgohdhaaGreat
