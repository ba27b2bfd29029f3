/-
  Steps
-/
import Derived.Test.YtjkaicjmfgekjaaGreatDoorPcOps
import Derived.Laws.StructEq
set_option linter.all false
namespace Go.Proofs.YtjkaicjmfgekjaaGreatDoor
def YB (ρ₀:Bd):List (Nat×Value)->Bd
 |[]=>ρ₀
 |(t,v)::r=>upd (YB ρ₀ r) t v
def Holds (ρ:Bd):List (Nat×Value)->Prop
 |[]=>True
 |(t,v)::r=>ρ t=v/\Holds ρ r
def Holds.ex {ρ : Bd} : ∀ {l : List (Nat × Value)}, Holds ρ l -> ∃ ρ₀, ρ = YB ρ₀ l := fun {l} h => ⟨ρ, by
  induction l with
  | nil => rfl
  | cons p r ih =>
    obtain ⟨t, v⟩ := p;simp only [YB];rw [<- ih h.2, <- h.1, TX]⟩
def gv (c:Bool)(v:Value):Value:=bif c then v else undef
def B4 {c:Bool}{v:Value}(h:c=true):gv c v=v:=by subst h;rfl
def jr {c:Bool}{v x:Value}(h:x=gv c v)(hc:c=true):x=v:=h.trans (B4 hc)
def HC {f:Operand->Value}:([]:List Operand).map f=[]:=rfl
def C2 {f:Operand->Value}{a:Operand}{x:Value}{l:List Operand}{r:List Value}(h:f a=x)(ht:l.map f=r):(a::l).map f=x::r:=by rw[Aaf,h,ht]
def Dn {a b:Bool}(h:(a&&b)=true):a=true:=by cases a<;>simp_all
section
variable {P :Program}{f:FuncId}{n:FN}{R:Ending->World->Prop}{k:List Item}{ops:Array Oper}{rest:List Oper}{ρ:Bd}{w:World}
variable {dst :Option Nat}{op:Op}{ty:TypeId}{pos:String}{af:Array Edge}{o:Oper}
def BX {j t:Nat}{oj:Oper}{e:Bool}(hg:o.guard=some (j,true))(hj:ops[j]? =some oj)(hd:oj.dst=some t)(hb:rd n ρ (.tmp t)= .bool e):
  Region.wanted o (yielded ops (Ci n ρ).tmps)=e:=by rw[L5 hg hj hd hb];cases e<;>rfl
def Cc {j t:Nat}{oj:Oper}{e:Bool}(hg:o.guard=some (j,false))(hj:ops[j]? =some oj)(hd:oj.dst=some t)(hb:rd n ρ (.tmp t)= .bool e):
  Region.wanted o (yielded ops (Ci n ρ).tmps)= !e:=by rw[L5 hg hj hd hb];cases e<;>rfl
def BY {j t:Nat}{want:Bool}{oj:Oper}(hg:o.guard=some (j,want))(hj:ops[j]? =some oj)(hd:oj.dst=some t)(hb:rd n ρ (.tmp t)=undef):
  Region.wanted o (yielded ops (Ci n ρ).tmps)=false:=by
 have h2:=Cp (n:=n) (ρ:=ρ) t;rw[hb]at h2;have h1:∀b,(Ci n ρ).tmps[t]? ≠some (.bool b):=λb h3=>by
  simp[Abi,h3,undef]at h2
 simp only[Region.wanted,hg,yielded,hj,hd,AbN];cases h3:(Ci n ρ).tmps[t]? with
 |none=>rfl
 |some v=>cases v<;>first|rfl|exact absurd h3 (h1 _)
def C3 {j t:Nat}{oj:Oper}{c e:Bool}(hg:o.guard=some (j,true))(hj:ops[j]? =some oj)(hd:oj.dst=some t)(hb:rd n ρ (.tmp t)=gv c (.bool e)):
  Region.wanted o (yielded ops (Ci n ρ).tmps)=(c&&e):=by
 cases c with
 |true=>exact BX hg hj hd hb
 |false=>exact BY hg hj hd hb
def C4 {j t:Nat}{oj:Oper}{c e:Bool}(hg:o.guard=some (j,false))(hj:ops[j]? =some oj)(hd:oj.dst=some t)(hb:rd n ρ (.tmp t)=gv c (.bool e)):
  Region.wanted o (yielded ops (Ci n ρ).tmps)=(c&& !e):=by
 cases c with
 |true=>exact Cc hg hj hd hb
 |false=>exact BY hg hj hd hb
def RL.gval {c:Bool}{v:Value}{g:Option (Nat×Bool)}(hw:Region.wanted ⟨dst,op,ty,pos,af,g⟩ (yielded ops (Ci n ρ).tmps)=c)
  (hx:c=true->X P n ρ ⟨dst,op,ty,pos,af,none⟩ w v w) (h:RL P f n R k ops rest (Bj ρ dst (gv c v)) w):RL P f n R k ops (⟨dst,op,ty,pos,af,g⟩::rest) ρ w:=by
 cases c with
 |true=>exact RL.guardT hw (RL.val (hx rfl) h)
 |false=>exact RL.guardF hw h
def RL.gcall {c:Bool}{g:FuncId}{ol:List Operand}{ts:Array TypeId}{vals:List Value}{v:Value}{gd:Option (Nat×Bool)}
  (hw:Region.wanted ⟨dst,.call {callee:= .value (.func g),args:=ol.toArray,argTypes:=ts},ty,pos,af,gd⟩ (yielded ops (Ci n ρ).tmps)=c) (he:DQ P g)
  (ha:c=true->ol.map (rd n ρ)=vals) (hc:c=true->Calls P g vals.toArray w (AU λu w'=>u=v/\As w w')) (h:∀w',As w w'->RL P f n R k ops rest (Bj ρ dst (gv c v)) w'):
  RL P f n R k ops (⟨dst,.call {callee:= .value (.func g),args:=ol.toArray,argTypes:=ts},ty,pos,af,gd⟩::rest) ρ w:=by
 cases c with
 |true=>exact RL.guardT hw (RL.st rfl<|AB.call he (ha rfl) (hc rfl) λu w' hu=>by rw[hu.1];exact h w' hu.2)
 |false=>exact RL.guardF hw (h w (Ae.refl _ w))
def C5 (d:Nat)(xs ys:Array Value)(w:World):(Op.eqFields d xs ys []).run P w= .ok true w:=by simp[Op.eqFields]
def A8 {d:Nat}{xs ys:Array Value}{fd:Field}{fs:List Field}{a b:Value}{r rs:Bool}(hn:(fd.name== "_")=false)(ha:∀w,(part fd.type xs fd.offset).run P w= .ok a w)
  (hb:∀w,(part fd.type ys fd.offset).run P w= .ok b w) (he:∀w,(Op.equalIn d fd.type a b).run P w= .ok r w) (hr:∀w,(Op.eqFields d xs ys fs).run P w= .ok rs w) (w:World):
  (Op.eqFields d xs ys (fd::fs)).run P w= .ok (r&&rs) w:=by
 have hn':fd.name≠ "_" :=by simpa using hn
 cases r<;>simp[Op.eqFields,hn',ha,hb,he,hr]
def Bz {t:TypeId}{size bytes off:Nat}{z v:Value}{cs:Array Value}(he:Ty P t size bytes z false)(hv:cs[off]? =some v)(w:World):(part t cs off).run P w= .ok v w:=by
 simp[part,he.run_isAgg,hv]
def Me {t:TypeId}{size bytes off:Nat}{z v:Value}{cs:Array Value}(he:Ty P t size bytes z true)(hv:Value.agg (cs.extract off (off+size))=v)(w:World):(part t cs off).run P w= .ok v w:=by
 simp[part,he.run_isAgg,he.run_size,hv]
def GK {t t':TypeId}{x y:Operand}{xs ys:Array Value}{r:Bool}{g:Option (Nat×Bool)}(hm:P.eqGuardType P.depth t=false)(hx:rd n ρ x= .agg xs)(hy:rd n ρ y= .agg ys)(he:∀w,(Op.equalIn 10000 t (.agg xs) (.agg ys)).run P w= .ok r w):
  X P n ρ ⟨dst,.binOp .eql t x y t',ty,pos,af,g⟩ w (.bool r) w:=by
 simp only[X,execOp,hx,hy,Sem.run_bind,run_eqGuard_agg w .eql t x y xs ys hm,Result.andThen_ok,run_eql_struct,he,Sem.run_pure]
def JC {t t':TypeId}{x y:Operand}{xs ys:Array Value}{r:Bool}{g:Option (Nat×Bool)}(hm:P.eqGuardType P.depth t=false)(hx:rd n ρ x= .agg xs)(hy:rd n ρ y= .agg ys)(he:∀w,(Op.equalIn 10000 t (.agg xs) (.agg ys)).run P w= .ok r w):
  X P n ρ ⟨dst,.binOp .neq t x y t',ty,pos,af,g⟩ w (.bool (!r)) w:=by
 simp only[X,execOp,hx,hy,Sem.run_bind,run_eqGuard_agg w .neq t x y xs ys hm,Result.andThen_ok,run_neq_struct,he,Sem.run_pure]
def Bo {c x y:Operand}{b e:Bool}{g:Option (Nat×Bool)}(hc:rd n ρ c= .bool b)(hx:rd n ρ x=gv b (.bool e))(hy:rd n ρ y= .bool false):
  X P n ρ ⟨dst,.pick c x y,ty,pos,af,g⟩ w (.bool (b&&e)) w:=by
 have:=T3 (P:=P) (w:=w) (dst:=dst) (ty:=ty) (pos:=pos) (af:=af) (g:=g) hc hx hy
 cases b<;>simpa[gv]using this
def Er {c x y:Operand}{b e:Bool}{g:Option (Nat×Bool)}(hc:rd n ρ c= .bool b)(hx:rd n ρ x= .bool true)(hy:rd n ρ y=gv (!b) (.bool e)):
  X P n ρ ⟨dst,.pick c x y,ty,pos,af,g⟩ w (.bool (b||e)) w:=by
 have:=T3 (P:=P) (w:=w) (dst:=dst) (ty:=ty) (pos:=pos) (af:=af) (g:=g) hc hx hy
 cases b<;>simpa[gv]using this
def T6 {c x y:Operand}{d b e:Bool}{g:Option (Nat×Bool)}(hd:d=true)(hc:rd n ρ c=gv d (.bool b))(hx:rd n ρ x=gv (d&&b) (.bool e))(hy:rd n ρ y= .bool false):
  X P n ρ ⟨dst,.pick c x y,ty,pos,af,g⟩ w (.bool (b&&e)) w:=by subst hd;exact Bo (jr hc rfl) (by simpa using hx) hy
def Kw {c x y:Operand}{d b e:Bool}{g:Option (Nat×Bool)}(hd:d=true)(hc:rd n ρ c=gv d (.bool b))(hx:rd n ρ x= .bool true)(hy:rd n ρ y=gv (d&& !b) (.bool e)):
  X P n ρ ⟨dst,.pick c x y,ty,pos,af,g⟩ w (.bool (b||e)) w:=by subst hd;exact Er (jr hc rfl) hx (by simpa using hy)
def RA (P:Program)(f:FuncId)(n:FN)(R:Ending->World->Prop)(k:List Item)(ops:Array Oper)(S:World->Prop)(fuel:Nat)(listed:Array Bool)(ρ:Bd)(w:World):Prop:=
 wpAnyH P .any ops (IZ P f n R k) S fuel listed (Ci n ρ) w
def Ai.draw' {id:Nat}{ops:Array Oper}{m:Nat}(hm:P.follows .mixedOrders=true)(hsz:ops.size=m)(h:∀w',As w w'->RA P f n R k ops (·=w') m (Array.replicate m false) ρ w'):
  Ai P f n R (.code (.region id ops true)::k) ρ w:=by
 subst hsz;exact Ai.of_wp (wp_region_held (S:=(·={w with drawn:=w.drawn+1})) hm (h _ (Ae.drew _ w)))
def GL (ops:Array Oper)(listed:Array Bool)(i:Nat):Bool:=Region.noSelect ops&&Region.free .any ops listed i&&(Region.ready .any ops listed).contains i
variable {S :World->Prop}{fuel:Nat}{listed:Array Bool}{i:Nat}
def D6 {d:Option Nat}{v:Value}(c:List PanicEntry)(a:Act)(w:World)(h:IZ P f n R k (.panic c) (a.put d v) w):IZ P f n R k (.panic c) a w:=by
 obtain⟨h1,h2,h3⟩:=h;exact⟨by cases d<;>exact h1,h2,h3⟩
def RA.take {v:Value}(i:Nat)(hi:ops[i]? =some ⟨dst,op,ty,pos,af,none⟩)(hb:GL ops listed i=true)(hS:S w)
  (hx:∀w,S w->X P n ρ ⟨dst,op,ty,pos,af,none⟩ w v w) (h:RA P f n R k ops S fuel (listed.setIfInBounds i true) (Bj ρ dst v) w):
  RA P f n R k ops S (fuel+1) listed ρ w:=by
 simp only[GL,Aao]at hb;refine wpAnyH_take (v:=v) hi hb.1.1 hb.1.2 hb.2 (λc a w=>D6 c a w) (.inl ⟨rfl,λw' hw'=> ?_⟩) hS ?_
 ·rw[BF];exact hx w' hw'
 rw[B5];exact h
def RA.gtake {v:Value}{c:Bool}{g:Option (Nat×Bool)}(i:Nat)(hi:ops[i]? =some ⟨dst,op,ty,pos,af,g⟩)(hb:GL ops listed i=true)(hS:S w)
  (hw:Region.wanted ⟨dst,op,ty,pos,af,g⟩ (yielded ops (Ci n ρ).tmps)=c)
  (hx:c=true->∀w,S w->X P n ρ ⟨dst,op,ty,pos,af,none⟩ w v w) (h:RA P f n R k ops S fuel (listed.setIfInBounds i true) (Bj ρ dst (gv c v)) w):
  RA P f n R k ops S (fuel+1) listed ρ w:=by
 simp only[GL,Aao]at hb;refine wpAnyH_take (v:=gv c v) hi hb.1.1 hb.1.2 hb.2 (λc a w=>D6 c a w) ?_ hS ?_
 ·cases c with
  |true=>exact .inl ⟨hw,λw' hw'=>by rw[BF];exact hx rfl w' hw'⟩
  |false=>exact .inr ⟨hw,rfl⟩
 rw[B5];exact h
def RA.val {v:Value}{w':World}(i:Nat)(hi:ops[i]? =some ⟨dst,op,ty,pos,af,none⟩)(hr:Region.ready .any ops listed=[i])
  (hx:X P n ρ ⟨dst,op,ty,pos,af,none⟩ w v w') (hS:S w') (h:RA P f n R k ops S fuel (listed.setIfInBounds i true) (Bj ρ dst v) w'):
  RA P f n R k ops S (fuel+1) listed ρ w:=by
 refine wpAnyH_all hr Zs λj hj=> ?_;rw[Aah]at hj;subst hj;unfold wpOp;simp only[hi,Region.wanted,if_true];refine .inl ?_;simp only[Oper.wp,BF];rw[hx];simp only[Oper.upon,B5];exact⟨hS,h⟩
def RA.skip {w':World}(i:Nat)(hi:ops[i]? =some ⟨none,op,ty,pos,af,none⟩)(hr:Region.ready .any ops listed=[i])
  (hx:(execOp (rd n ρ) ⟨none,op,ty,pos,af,none⟩).run P w= .ok .skip w') (hS:S w') (h:RA P f n R k ops S fuel (listed.setIfInBounds i true) ρ w'):
  RA P f n R k ops S (fuel+1) listed ρ w:=by
 refine wpAnyH_all hr Zs λj hj=> ?_;rw[Aah]at hj;subst hj;unfold wpOp;simp only[hi,Region.wanted,if_true];refine .inl ?_;simp only[Oper.wp,BF];rw[hx];simp only[Oper.upon,B5];exact⟨hS,h⟩
def RA.enter {g:FuncId}{vals:Array Value}{Φ:Value->World->Prop}(i:Nat)(hi:ops[i]? =some ⟨dst,op,ty,pos,af,none⟩)(hr:Region.ready .any ops listed=[i])
  (hx:(execOp (rd n ρ) ⟨dst,op,ty,pos,af,none⟩).run P w= .ok (.enter g vals) w) (hc:Calls P g vals w (AU Φ))
  (h:∀v w',Φ v w'->S w'/\RA P f n R k ops S fuel (listed.setIfInBounds i true) (Bj ρ dst v) w'):
  RA P f n R k ops S (fuel+1) listed ρ w:=by
 refine wpAnyH_all hr Zs λj hj=> ?_;rw[Aah]at hj;subst hj;unfold wpOp;simp only[hi,Region.wanted,if_true];refine .inl ?_;simp only[Oper.wp,BF];rw[hx];simp only[Oper.upon];refine hc.mono ?_;rintro e w' ⟨v,rfl,hΦ⟩;simp only[B5];exact h v w' hΦ
def RA.done (hr:Region.ready .any ops listed=[])(h:Ai P f n R k ρ w):RA P f n R k ops S fuel listed ρ w:=wpAnyH_done hr ⟨n.ds,ρ,rfl,h⟩ fuel
def T7 {g:FuncId}{ol:List Operand}{ts:Array TypeId}{vals:List Value}{gd:Option (Nat×Bool)}(he:DQ P g)(ha:ol.map (rd n ρ)=vals):
  (execOp (rd n ρ) ⟨dst,.call {callee:= .value (.func g),args:=ol.toArray,argTypes:=ts},ty,pos,af,gd⟩).run P w= .ok (.enter g vals.toArray) w:=by
 simp[execOp,resolve,rd,Deferred.ofValue,invoke,ha,he vals.toArray w]
end
end Go.Proofs.YtjkaicjmfgekjaaGreatDoor
