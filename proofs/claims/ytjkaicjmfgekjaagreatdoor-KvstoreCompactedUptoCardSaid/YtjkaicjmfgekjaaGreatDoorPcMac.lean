/-
  Mac
-/
import Derived.Test.YtjkaicjmfgekjaaGreatDoorPcMake
import Derived.Test.YtjkaicjmfgekjaaGreatDoorPcErr
import Derived.Test.YtjkaicjmfgekjaaGreatDoorPcCopy
import Derived.Test.YtjkaicjmfgekjaaGreatDoorPcPlain
set_option linter.all false
namespace Go.Proofs.YtjkaicjmfgekjaaGreatDoor
class Und (P:Program)(t:TypeId)(d:outParam TypeDesc):Prop where
 h:P.underlying t=some d
class Fld (P:Program)(t i:Nat)(off ft:outParam Nat):Prop where
 h:∃fs fd,P.underlying t=some (.struct fs)/\fs[i]? =some fd/\fd.offset=off/\fd.type=ft
theorem Fld.of {P:Program}{t i off ft:Nat}{fs:Array Field}{fd:Field}(h:P.underlying t=some (.struct fs))(h1:fs[i]? =some fd:=by rfl)(h2:fd.offset=off:=by rfl)(h3:fd.type=ft:=by rfl):Fld P t i off ft:=⟨fs,fd,h,h1,h2,h3⟩
class Ent (P:Program)(g:FuncId):Prop where
 h:DQ P g
theorem Ent.of {P:Program}{g:FuncId}{fn:Func}{c:Code}(hf:P.funcs[g]? =some fn)(hb:fn.body=some c:=by rfl)(hn:(fn.name== "runtime.NumGoroutine")=false:=by kernel_rfl):Ent P g:=⟨C1 hf hb hn⟩
theorem Ty.of {P:Program}{t:TypeId}{size bytes:Nat}{z:Value}{agg:Bool}(h:(P.info? t).map (λi=>(i.zero,i.size,i.bytes))=some (some z,size,bytes):=by kernel_rfl)
  (h2:(P.underlying t).map aggDesc=some agg:=by kernel_rfl):Ty P t size bytes z agg:=X4 h h2
def mixP {P:Program}(h:(P.follows .mixedOrders)=true):P.follows .mixedOrders=true:=h
section
variable {P :Program}{n:FN}{ρ:Bd}{w:World}{dst:Option Nat}{ty:TypeId}{pos:String}{af:Array Edge}{g:Option (Nat×Bool)}
def Ri {t e:TypeId}{x:Operand}{a:Option Addr}{l c:Nat}[u:Und P t (.slice e)](hx:rd n ρ x= .slice a l c):
  X P n ρ ⟨dst,.call {callee:= .builtin .len,args:=#[x],argTypes:=#[t]},ty,pos,af,g⟩ w (.int .i64 (l:Int)) w:=CM u.h hx
def X8 {t:TypeId}{x:Operand}{b o o' i size bytes off ft:Nat}{z:Value}{agg:Bool}(hx:rd n ρ x= .pointer (some ⟨b,o,none⟩))[u:Fld P t i off ft][e:Ty P ft size bytes z agg]
  (h0:(size==0)=false) (ho:o+off=o'):X P n ρ ⟨dst,.fieldAddr t x i,ty,pos,af,g⟩ w (.pointer (some ⟨b,o',none⟩)) w:=by
 obtain⟨fs,fd,h1,h2,h3,h4⟩:=u.h;subst h3 h4;exact JB h1 h2 e h0 hx ho
def Uj {t:TypeId}{x:Operand}{i size bytes off ft:Nat}{z:Value}{cs:Array Value}{v:Value}(hx:rd n ρ x= .agg cs)[u:Fld P t i off ft][e:Ty P ft size bytes z false](hv:cs[off]? =some v):
  X P n ρ ⟨dst,.field t x i,ty,pos,af,g⟩ w v w:=by
 obtain⟨fs,fd,h1,h2,h3,h4⟩:=u.h;subst h3 h4;exact YA h1 h2 e hx hv
def gJ {t:TypeId}{x:Operand}{b o size bytes:Nat}{z v:Value}{c:List Value}{T:TypeId}(hx:rd n ρ x= .pointer (some ⟨b,o,none⟩))[e:Ty P t size bytes z false](hb:AC w b c T)(hc:c[o]? =some v)(hv:v.oneCell'=true):
  X P n ρ ⟨dst,.load t x,ty,pos,af,g⟩ w v w:=HM e hx hv (by have:=hb.cl.field hc;rwa[Aaq]at this)
def X9 {t:TypeId}{x:Operand}{b o size bytes:Nat}{z:Value}{c l:List Value}{T:TypeId}(hx:rd n ρ x= .pointer (some ⟨b,o,none⟩))[e:Ty P t size bytes z true](hb:AC w b c T)(hc:(c.drop o).take size=l)(hs:l.length=size):
  X P n ρ ⟨dst,.load t x,ty,pos,af,g⟩ w (.agg l.toArray) w:=Q9 e hx (by simpa using hs) (by have:=hb.cl.drop o size;rw[Aaq,hc]at this;simpa using this)
def Ya {α:Type}{inst:Enc α}{t:TypeId}{x:Operand}{b o size bytes:Nat}{z v:Value}{agg:Bool}{y:α}(hx:rd n ρ x= .pointer (some ⟨b,o,none⟩))[e:Ty P t size bytes z agg](hc:Cl w b o (cellsOf y))(hv:Enc.val y=v)(hs:size=Enc.size α)(ha:agg=Enc.agg α):
  X P n ρ ⟨dst,.load t x,ty,pos,af,g⟩ w v w:=by subst hs ha;exact B9 e hx hc hv
def Yb {t e:TypeId}{x ix:Operand}{a:Option Addr}{b o l c size bytes:Nat}{z:Value}{agg:Bool}{kd:IntKind}{i:Nat}(hx:rd n ρ x= .slice a l c)(hi:rd n ρ ix= .int kd (i:Int))
  [u:Und P t (.slice e)] [s:Ty P e size bytes z agg] (ha:a=some ⟨b,o,none⟩) (h1:i<l):X P n ρ ⟨dst,.indexAddr t x ix,ty,pos,af,g⟩ w (.pointer (some ⟨b,o+i*size,none⟩)) w:=AY u.h s hx hi ha h1
end
section
variable {P :Program}{n:FN}{ρ:Bd}{w w':World}{o:Oper}{v:Value}
def Yc (h:X P n ρ o w v w:=by
 first
 |(apply D4;exact rfl)|(apply FY;exact rfl)|(apply FG;exact rfl)|(apply Gt;exact rfl)
 |(apply J0;exact rfl)|(apply Q3;exact rfl)|(apply Q5;exact rfl)|(apply Fd;exact rfl)
 |(apply L6;exact rfl)|(apply Kt;exact rfl)|(apply L8;exact rfl)|(apply L7;exact rfl)
 |(apply L9;exact rfl)|(apply Mb;exact rfl)|(apply X8;exact rfl;exact rfl;(first|exact Aaq _|exact rfl))|(apply Kv;exact rfl)
 |(apply Ri;exact rfl)|(apply gJ;exact rfl;assumption;exact rfl;exact rfl)|(apply X9;exact rfl;assumption;(first|(simp only[Aaq,Nat.reduceAdd,AbP,List.drop_zero,AbO,AaF,List.take_nil];exact(rfl:_=_::_))|exact(rfl:_=[_,_])|exact(rfl:_=[_,_,_])|exact(rfl:_=[_])|exact(rfl:_=[_,_,_,_])|exact(rfl:_=[_,_,_,_,_])|exact rfl);exact rfl)|(apply Ya;exact rfl;assumption;exact rfl;exact rfl;exact rfl)
 |(apply DR;apply HF<;>exact rfl;decide)|(apply DK;apply HF<;>exact rfl;decide)|(apply HF<;>exact rfl)
 |(apply DR;apply FZ<;>exact rfl;decide)|(apply DK;apply FZ<;>exact rfl;decide)|(apply FZ<;>exact rfl)
 |(apply DR;apply HG<;>exact rfl;decide)|(apply DK;apply HG<;>exact rfl;decide)|(apply HG<;>exact rfl)
 |(apply DR;apply GU<;>exact rfl;decide)|(apply DK;apply GU<;>exact rfl;decide)|(apply GU<;>exact rfl)
 |(apply DR;apply Ob<;>exact rfl;decide)|(apply DK;apply Ob<;>exact rfl;decide)|(apply Ob<;>exact rfl)
 |(apply DR;apply Md<;>exact rfl;decide)|(apply DK;apply Md<;>exact rfl;decide)|(apply Md<;>exact rfl)
 |(apply Bp;exact rfl)|(apply Ec;exact rfl;exact rfl)
 |(apply Yb;exact rfl;exact rfl;assumption;first|omega|(simp only[Aa3];omega))|(apply Uj;exact rfl;exact rfl)|(apply Q6;exact rfl)|(apply Mc;exact rfl)
 |(apply Q4;exact rfl)|(apply Ma;exact rfl)|(apply Oa;exact rfl)|(apply Ku;exact rfl)):X P n ρ o w v w:=h
def gq {c:Bool}{v x:Value}(hg:c=true)(h:v=gv c x):v=x:=by rw[h];exact B4 hg
def Yd {c:Bool}(h:c=true->X P n ρ o w v w:=by
 intro hg;first
 |(apply D4;(first|exact rfl|exact B4 hg|exact B4 (Dn hg)))|(apply FY;(first|exact rfl|exact B4 hg|exact B4 (Dn hg)))|(apply FG;(first|exact rfl|exact B4 hg|exact B4 (Dn hg)))|(apply Gt;(first|exact rfl|exact B4 hg|exact B4 (Dn hg)))
 |(apply J0;(first|exact rfl|exact B4 hg|exact B4 (Dn hg)))|(apply Q3;(first|exact rfl|exact B4 hg|exact B4 (Dn hg)))|(apply Q5;(first|exact rfl|exact B4 hg|exact B4 (Dn hg)))|(apply Fd;(first|exact rfl|exact B4 hg|exact B4 (Dn hg)))
 |(apply L6;(first|exact rfl|exact B4 hg|exact B4 (Dn hg)))|(apply Kt;(first|exact rfl|exact B4 hg|exact B4 (Dn hg)))|(apply L8;(first|exact rfl|exact B4 hg|exact B4 (Dn hg)))|(apply L7;(first|exact rfl|exact B4 hg|exact B4 (Dn hg)))
 |(apply L9;(first|exact rfl|exact B4 hg|exact B4 (Dn hg)))|(apply Mb;(first|exact rfl|exact B4 hg|exact B4 (Dn hg)))|(apply X8;(first|exact rfl|exact B4 hg|exact B4 (Dn hg));exact rfl;(first|exact Aaq _|exact rfl))|(apply Kv;(first|exact rfl|exact B4 hg|exact B4 (Dn hg)))
 |(apply Ri;(first|exact rfl|exact B4 hg|exact B4 (Dn hg)))|(apply gJ;(first|exact rfl|exact B4 hg|exact B4 (Dn hg));assumption;exact rfl;exact rfl)|(apply X9;(first|exact rfl|exact B4 hg|exact B4 (Dn hg));assumption;(first|(simp only[Aaq,Nat.reduceAdd,AbP,List.drop_zero,AbO,AaF,List.take_nil];exact(rfl:_=_::_))|exact(rfl:_=[_,_])|exact(rfl:_=[_,_,_])|exact(rfl:_=[_])|exact(rfl:_=[_,_,_,_])|exact(rfl:_=[_,_,_,_,_])|exact rfl);exact rfl)|(apply Ya;(first|exact rfl|exact B4 hg|exact B4 (Dn hg));assumption;exact rfl;exact rfl;exact rfl)
 |(apply HF<;>(first|exact rfl|exact B4 hg|exact B4 (Dn hg)))|(apply FZ<;>(first|exact rfl|exact B4 hg|exact B4 (Dn hg)))|(apply HG<;>(first|exact rfl|exact B4 hg|exact B4 (Dn hg)))|(apply GU<;>(first|exact rfl|exact B4 hg|exact B4 (Dn hg)))
 |(apply Ob<;>(first|exact rfl|exact B4 hg|exact B4 (Dn hg)))|(apply Md<;>(first|exact rfl|exact B4 hg|exact B4 (Dn hg)))|(apply Bp;(first|exact rfl|exact B4 hg|exact B4 (Dn hg)))|(apply Ec;(first|exact rfl|exact B4 hg|exact B4 (Dn hg));exact rfl)
 |(apply Yb;(first|exact rfl|exact B4 hg|exact B4 (Dn hg));(first|exact rfl|exact B4 hg|exact B4 (Dn hg));assumption;first|omega|(simp only[Aa3];omega))|(apply Uj;(first|exact rfl|exact B4 hg|exact B4 (Dn hg));exact rfl)|(apply Q6;(first|exact rfl|exact B4 hg|exact B4 (Dn hg)))|(apply Mc;(first|exact rfl|exact B4 hg|exact B4 (Dn hg)))
 |(apply Q4;(first|exact rfl|exact B4 hg|exact B4 (Dn hg)))|(apply Ma;(first|exact rfl|exact B4 hg|exact B4 (Dn hg)))|(apply Oa;(first|exact rfl|exact B4 hg|exact B4 (Dn hg)))|(apply Ku;(first|exact rfl|exact B4 hg|exact B4 (Dn hg)))):c=true->X P n ρ o w v w:=h
end
section
variable {P :Program}{f:FuncId}{n:FN}{R:Ending->World->Prop}{k:List Item}{ops:Array Oper}{rest:List Oper}{ρ:Bd}{w w':World}
variable {dst :Option Nat}{op:Op}{ty:TypeId}{pos:String}{af:Array Edge}{o:Oper}{v:Value}{g:Option (Nat×Bool)}{c:Bool}
def jV (hx:X P n ρ ⟨dst,op,ty,pos,af,none⟩ w v w')(h:RL P f n R k ops rest (Bj ρ dst v) w'):RL P f n R k ops (⟨dst,op,ty,pos,af,none⟩::rest) ρ w:=RL.val hx h
def jW (h:RL P f n R k ops rest (Bj ρ dst (gv c v)) w)(hw:Region.wanted ⟨dst,op,ty,pos,af,g⟩ (yielded ops (Ci n ρ).tmps)=c:=by first|exact BX rfl rfl rfl rfl|exact Cc rfl rfl rfl rfl|exact C3 rfl rfl rfl rfl|exact C4 rfl rfl rfl rfl)(hx:c=true->X P n ρ ⟨dst,op,ty,pos,af,none⟩ w v w):RL P f n R k ops (⟨dst,op,ty,pos,af,g⟩::rest) ρ w:=RL.gval hw hx h
def Uk (m:Nat):Nat->Array Bool
 |0=>Array.replicate m false
 |i+1=>(Uk m i).setIfInBounds i true
def Ul (ops:Array Oper):Bool:=((List.range ops.size).all λi=>GL ops (Uk ops.size i) i)&&(Region.ready .any ops (Uk ops.size ops.size)).isEmpty
def RD (P:Program)(f:FuncId)(n:FN)(R:Ending->World->Prop)(k:List Item)(ops:Array Oper):List Oper->Bd->World->Prop
 |[],ρ,w=>Ai P f n R k ρ w
 |o::l,ρ,w=>∃c v,Region.wanted o (yielded ops (Ci n ρ).tmps)=c/\(c=true->X P n ρ {o with guard:=none} w v w)/\RD P f n R k ops l (Bj ρ o.dst (gv c v)) w
def RD.ra (hb : Ul ops = true) : ∀ (l : List Oper) (i : Nat) (ρ : Bd), ops.toList.drop i = l -> RD P f n R k ops l ρ w -> RA P f n R k ops (· = w) (ops.size - i) (Uk ops.size i) ρ w := by
  simp only [Ul, Aao, AbS, List.mem_range] at hb;obtain ⟨h1, h2⟩ := hb;have h2' : Region.ready .any ops (Uk ops.size ops.size) = [] := by simpa using h2
  intro l;induction l with
  | nil =>
    intro i ρ hl h;have hi : ops.size <= i := by simpa using List.drop_eq_nil_iff.1 hl
    have key : ∀ j, Uk ops.size (ops.size + j) = Uk ops.size ops.size := by
      intro j;induction j with
      | zero => rfl
      | succ j ih => rw [<- Abs, Uk, ih]; apply Array.setIfInBounds_eq_of_size_le; have : ∀ m i, (Uk m i).size = m := by { intro m i; induction i with | zero => simp [Uk] | succ i ih => simp [Uk, ih] }; rw [this]; omega
    obtain ⟨j, rfl⟩ : ∃ j, i = ops.size + j := ⟨i - ops.size, by omega⟩
    rw [key];exact RA.done h2' h
  | cons o l ih =>
    intro i ρ hl h;have hi : i < ops.size := by
      rcases Abn i ops.size with h | h
      · exact h
      rw [Aa0 (by simpa using h)] at hl; cases hl
    have ho : ops[i]? = some o := by
      have := congrArg (·[0]?) hl;simpa using this
    obtain ⟨c, v, hw, hx, hr⟩ := h;obtain ⟨d, p, t, ps, a, g⟩ := o;have e : ops.size - i = (ops.size - (i + 1)) + 1 := by omega
    rw [e];refine RA.gtake (v := v) (c := c) i ho (h1 i hi) rfl hw (λhc => by rintro _ rfl; exact hx hc) ?_;exact ih (i + 1) _ (by rw [<- Aa6, hl]; rfl) hr
def Ai.drawR {id:Nat}(h:∀w',As w w'->RD P f n R k ops ops.toList ρ w')(hm:P.follows .mixedOrders=true:=by kernel_rfl)(hb:Ul ops=true:=by kernel_rfl):Ai P f n R (.code (.region id ops true)::k) ρ w:=
 Ai.draw' hm rfl λw' K=>RD.ra hb _ 0 _ rfl (h w' K)
def RD.nil (h:Ai P f n R k ρ w):RD P f n R k ops [] ρ w:=h
def jD (hx:X P n ρ ⟨dst,op,ty,pos,af,none⟩ w v w)(h:RD P f n R k ops rest (Bj ρ dst v) w):RD P f n R k ops (⟨dst,op,ty,pos,af,none⟩::rest) ρ w:=⟨true,v,rfl,λ_=>hx,h⟩
def jE (h:RD P f n R k ops rest (Bj ρ dst (gv c v)) w)(hw:Region.wanted ⟨dst,op,ty,pos,af,g⟩ (yielded ops (Ci n ρ).tmps)=c:=by first|exact BX rfl rfl rfl rfl|exact Cc rfl rfl rfl rfl|exact C3 rfl rfl rfl rfl|exact C4 rfl rfl rfl rfl)(hx:c=true->X P n ρ ⟨dst,op,ty,pos,af,none⟩ w v w):RD P f n R k ops (⟨dst,op,ty,pos,af,g⟩::rest) ρ w:=⟨c,v,hw,hx,h⟩
end
def KG (ops : Array Oper) (U : List Nat) : List Nat -> Array Bool -> Bool
  | [], l => (Region.ready .any ops l).isEmpty
  | c :: r, l => (match c / 1000 with
    | 0 => Kz ops U l (c % 1000)
    | 1 => Ie ops U l (c % 1000)
    | _ => decide (Region.ready .any ops l = [c % 1000])) && KG ops U r (l.setIfInBounds (c % 1000) true)
def LS (U:List Nat)(l:Array Bool)(S:World->Prop)(w:World):Prop:=CC U l=true\/S w
def RS (P : Program) (f : FuncId) (n : FN) (R : Ending -> World -> Prop) (k : List Item) (ops : Array Oper) (S : World -> Prop) (U : List Nat) : List Nat -> Array Bool -> Bd -> World -> Prop
  | [], _, ρ, w => Ai P f n R k ρ w
  | c :: r, l, ρ, w => ∃ o, ops[c % 1000]? = some o /\ ∃ b v, Region.wanted o (yielded ops (Ci n ρ).tmps) = b /\
    ((c / 1000 = 0 /\ (b = true -> ∀ w, X P n ρ { o with guard := none } w v w) /\ RS P f n R k ops S U r (l.setIfInBounds (c % 1000) true) (Bj ρ o.dst (gv b v)) w) \/
     (c / 1000 = 1 /\ (b = true -> ∀ w, S w -> X P n ρ { o with guard := none } w v w) /\ RS P f n R k ops S U r (l.setIfInBounds (c % 1000) true) (Bj ρ o.dst (gv b v)) w) \/
     (2 <= c / 1000 /\ (b = true -> AB P f n R k { o with guard := none } ρ w (λρ' w' => LS U (l.setIfInBounds (c % 1000) true) S w' /\ RS P f n R k ops S U r (l.setIfInBounds (c % 1000) true) ρ' w')) /\
      (b = false -> LS U (l.setIfInBounds (c % 1000) true) S w /\ RS P f n R k ops S U r (l.setIfInBounds (c % 1000) true) (Bj ρ o.dst undef) w)))
section
variable {P :Program}{f:FuncId}{n:FN}{R:Ending->World->Prop}{k:List Item}{ops:Array Oper}{rest:List Oper}{ρ:Bd}{w w':World}
variable {dst :Option Nat}{op:Op}{ty:TypeId}{pos:String}{af:Array Edge}{o:Oper}{v:Value}{g:Option (Nat×Bool)}{c:Bool}{S:World->Prop}{U:List Nat}{q:Nat}{r:List Nat}{l:Array Bool}
def PY {i:Nat}(h:Kz ops U l i=true):CC U (l.setIfInBounds i true)=CC U l:=by
 simp only[Kz,Aao]at h;exact C6 (by simpa using h.2)
def PZ {i:Nat}(h:Ie ops U l i=true):CC U l=false/\CC U (l.setIfInBounds i true)=CC U l:=by
 simp only[Ie,Aao,AaH,vB]at h;exact⟨h.2,C6 (by simpa using h.1.2.1)⟩
def RS.rt : ∀ (sch : List Nat) (fuel : Nat) (l : Array Bool) (ρ : Bd) (w : World), KG ops U sch l = true -> sch.length <= fuel -> (CC U l = true \/ S w) -> RS P f n R k ops S U sch l ρ w -> RT P f n R k ops S U fuel l ρ w := by
  intro sch;induction sch with
  | nil => intro fuel l ρ w hb _ _ h; exact RT.done (by simpa [KG] using hb) h
  | cons q r ih =>
    intro fuel l ρ w hb hf hS h;obtain ⟨o, ho, b, v, hw, h⟩ := h;rw [KG, Aao] at hb;obtain ⟨hb, hr⟩ := hb;obtain ⟨m, rfl⟩ : ∃ m, fuel = m + 1 := ⟨fuel - 1, by simp only [Aaj] at hf; omega⟩
    have hf' : r.length <= m := by simp only [Aaj] at hf; omega
    obtain ⟨d, p, t, ps, a, g⟩ := o;rcases h with ⟨hk, hx, h⟩ | ⟨hk, hx, h⟩ | ⟨hk, hx, h⟩
    · rw [hk] at hb;exact RT.gtakeP (v := v) (c := b) _ ho hb hS hw hx (ih m _ _ _ hr hf' (by rw [PY hb]; exact hS) h)
    · rw [hk] at hb;have hS' : S w := hS.resolve_left (by rw [(PZ hb).1]; decide);exact RT.gtake (v := v) (c := b) _ ho hb hS' hw hx (ih m _ _ _ hr hf' (.inr hS') h)
    have hb' : Region.ready .any ops l = [q % 1000] := by
      have : q / 1000 ≠ 0 /\ q / 1000 ≠ 1 := by omega
      revert hb;split
      · rename_i e; exact absurd e this.1
      · rename_i e; exact absurd e this.2
      intro hb; simpa using hb
    cases b with
    | true =>
      refine RT.one _ ho hb' ?_;unfold wpOp;simp only [ho, hw, if_true];have h3 : Oper.wp P ⟨d, p, t, ps, a, none⟩ (Ci n ρ) w (λa' w' => ∃ ρ', a' = Ci n ρ' /\ (CC U (l.setIfInBounds (q % 1000) true) = true \/ S w') /\ RT P f n R k ops S U m (l.setIfInBounds (q % 1000) true) ρ' w') (IZ P f n R k) := by
        refine Oper.wp_mono ?_ (hx rfl);rintro a' w' ⟨ρ', rfl, h1, h2⟩;exact ⟨ρ', rfl, h1, ih m _ _ _ hr hf' h1 h2⟩
      exact .inl h3
    | false =>
      obtain ⟨h1, h2⟩ := h rfl;exact RT.gT _ ho hb' hw h1 (ih m _ _ _ hr hf' h1 h2)
def Ai.drawS {id:Nat}(U:List Nat)(sch:List Nat)(h:∀w',As w w'->∃S,S w'/\RS P f n R k ops S U sch (Array.replicate ops.size false) ρ w')(hm:P.follows .mixedOrders=true:=by kernel_rfl)
  (hb:(KG ops U sch (Array.replicate ops.size false)&&Nat.ble sch.length ops.size)=true:=by kernel_rfl):Ai P f n R (.code (.region id ops true)::k) ρ w:=by
 rw[Aao]at hb;refine Ai.drawT U hm rfl λw' K=> ?_;obtain⟨S,hS,h⟩:=h w' K;exact⟨S,RS.rt sch _ _ _ _ hb.1 (AbM hb.2) (.inr hS) h⟩
structure HS (S:World->Prop)(w:World):Prop where
 h:S w
def Jn :HS (λ_=>True) w:=⟨trivial⟩
def jb {b:Nat}{c:List Value}{T:TypeId}(h:AC w b c T)(r:HS S w):HS (λw'=>AC w' b c T/\S w') w:=⟨⟨h,r.h⟩⟩
def jl {b o:Nat}{c:List Value}(h:Cl w b o c)(r:HS S w):HS (λw'=>Cl w' b o c/\S w') w:=⟨⟨h,r.h⟩⟩
def jM (hS:HS S w)(h:RS P f n R k ops S U r l ρ w):∃S,S w/\RS P f n R k ops S U r l ρ w:=⟨S,hS.h,h⟩
def RS.nil (h:Ai P f n R k ρ w):RS P f n R k ops S U [] l ρ w:=h
def jP (h:RS P f n R k ops S U r (l.setIfInBounds (q%1000) true) (Bj ρ dst v) w)(hi:ops[q%1000]? =some ⟨dst,op,ty,pos,af,none⟩:=by rfl)(hk:q/1000=0:=by rfl)(hx:∀w,X P n ρ ⟨dst,op,ty,pos,af,none⟩ w v w):RS P f n R k ops S U (q::r) l ρ w:=⟨_,hi,true,v,rfl,.inl ⟨hk,λ_=>hx,h⟩⟩
def jQ (h:RS P f n R k ops S U r (l.setIfInBounds (q%1000) true) (Bj ρ dst (gv c v)) w)(hi:ops[q%1000]? =some ⟨dst,op,ty,pos,af,g⟩:=by rfl)(hk:q/1000=0:=by rfl)(hw:Region.wanted ⟨dst,op,ty,pos,af,g⟩ (yielded ops (Ci n ρ).tmps)=c:=by first|exact BX rfl rfl rfl rfl|exact Cc rfl rfl rfl rfl|exact C3 rfl rfl rfl rfl|exact C4 rfl rfl rfl rfl)(hx:∀w,c=true->X P n ρ ⟨dst,op,ty,pos,af,none⟩ w v w):RS P f n R k ops S U (q::r) l ρ w:=⟨_,hi,c,v,hw,.inl ⟨hk,λhc w=>hx w hc,h⟩⟩
def gK (h:RS P f n R k ops S U r (l.setIfInBounds (q%1000) true) (Bj ρ dst undef) w)(hi:ops[q%1000]? =some ⟨dst,op,ty,pos,af,g⟩:=by rfl)(hk:Nat.blt (q/1000) 2=true:=by rfl)
  (hw:Region.wanted ⟨dst,op,ty,pos,af,g⟩ (yielded ops (Ci n ρ).tmps)=false:=by first|exact DU rfl rfl rfl rfl|exact DV rfl rfl rfl rfl|exact BY rfl rfl rfl rfl):RS P f n R k ops S U (q::r) l ρ w:=by
 have hk':q/1000=0\/q/1000=1:=by have:=AbM hk;omega
 rcases hk' with hk|hk
 ·exact⟨_,hi,false,undef,hw,.inl ⟨hk,λe=>(by cases e),h⟩⟩
 exact⟨_,hi,false,undef,hw,.inr (.inl ⟨hk,λe=>(by cases e),h⟩)⟩
def kd0 (h:RD P f n R k ops rest (Bj ρ dst undef) w)(hw:Region.wanted ⟨dst,op,ty,pos,af,g⟩ (yielded ops (Ci n ρ).tmps)=false:=by first|exact DU rfl rfl rfl rfl|exact DV rfl rfl rfl rfl|exact BY rfl rfl rfl rfl):RD P f n R k ops (⟨dst,op,ty,pos,af,g⟩::rest) ρ w:=⟨false,undef,hw,λe=>(by cases e),h⟩
def kv0 (h:RL P f n R k ops rest (Bj ρ dst undef) w)(hw:Region.wanted ⟨dst,op,ty,pos,af,g⟩ (yielded ops (Ci n ρ).tmps)=false:=by first|exact DU rfl rfl rfl rfl|exact DV rfl rfl rfl rfl|exact BY rfl rfl rfl rfl):RL P f n R k ops (⟨dst,op,ty,pos,af,g⟩::rest) ρ w:=RL.guardF hw h
def jH (h:RS P f n R k ops S U r (l.setIfInBounds (q%1000) true) (Bj ρ dst v) w)(hi:ops[q%1000]? =some ⟨dst,op,ty,pos,af,none⟩:=by rfl)(hk:q/1000=1:=by rfl)(hx:∀w,S w->X P n ρ ⟨dst,op,ty,pos,af,none⟩ w v w):RS P f n R k ops S U (q::r) l ρ w:=⟨_,hi,true,v,rfl,.inr (.inl ⟨hk,λ_=>hx,h⟩)⟩
def jI (h:RS P f n R k ops S U r (l.setIfInBounds (q%1000) true) (Bj ρ dst (gv c v)) w)(hi:ops[q%1000]? =some ⟨dst,op,ty,pos,af,g⟩:=by rfl)(hk:q/1000=1:=by rfl)(hw:Region.wanted ⟨dst,op,ty,pos,af,g⟩ (yielded ops (Ci n ρ).tmps)=c:=by first|exact BX rfl rfl rfl rfl|exact Cc rfl rfl rfl rfl|exact C3 rfl rfl rfl rfl|exact C4 rfl rfl rfl rfl)(hx:c=true->∀w,S w->X P n ρ ⟨dst,op,ty,pos,af,none⟩ w v w):RS P f n R k ops S U (q::r) l ρ w:=⟨_,hi,c,v,hw,.inr (.inl ⟨hk,hx,h⟩)⟩
def jU (hi:ops[q%1000]? =some ⟨dst,op,ty,pos,af,none⟩)(h:AB P f n R k ⟨dst,op,ty,pos,af,none⟩ ρ w (λρ' w'=>LS U (l.setIfInBounds (q%1000) true) S w'/\RS P f n R k ops S U r (l.setIfInBounds (q%1000) true) ρ' w'))(hk:2<=q/1000:=by decide):RS P f n R k ops S U (q::r) l ρ w:=⟨_,hi,true,undef,rfl,.inr (.inr ⟨hk,λ_=>h,λe=>(by cases e)⟩)⟩
def jX (hi:ops[q%1000]? =some ⟨dst,op,ty,pos,af,g⟩)(h:AB P f n R k ⟨dst,op,ty,pos,af,none⟩ ρ w (λρ' w'=>LS U (l.setIfInBounds (q%1000) true) S w'/\RS P f n R k ops S U r (l.setIfInBounds (q%1000) true) ρ' w'))(hk:2<=q/1000:=by decide)(hw:Region.wanted ⟨dst,op,ty,pos,af,g⟩ (yielded ops (Ci n ρ).tmps)=true:=by first|exact Oe rfl rfl rfl rfl|exact BJ rfl rfl rfl rfl):RS P f n R k ops S U (q::r) l ρ w:=⟨_,hi,true,undef,hw,.inr (.inr ⟨hk,λ_=>h,λe=>(by cases e)⟩)⟩
def jY (h:LS U (l.setIfInBounds (q%1000) true) S w/\RS P f n R k ops S U r (l.setIfInBounds (q%1000) true) (Bj ρ dst undef) w)(hi:ops[q%1000]? =some ⟨dst,op,ty,pos,af,g⟩:=by rfl)(hk:2<=q/1000:=by decide)
  (hw:Region.wanted ⟨dst,op,ty,pos,af,g⟩ (yielded ops (Ci n ρ).tmps)=false:=by first|exact DU rfl rfl rfl rfl|exact DV rfl rfl rfl rfl|exact BY rfl rfl rfl rfl):RS P f n R k ops S U (q::r) l ρ w:=⟨_,hi,false,undef,hw,.inr (.inr ⟨hk,λe=>(by cases e),λ_=>h⟩)⟩
def jZ {c:Bool}{g:FuncId}{ol:List Operand}{ts:Array TypeId}{vals:List Value}{v:Value}{gd:Option (Nat×Bool)}(hc:c=true->Calls P g vals.toArray w (AU λu w'=>u=v/\As w w'))
  (h:∀w',As w w'->LS U (l.setIfInBounds (q%1000) true) S w'/\RS P f n R k ops S U r (l.setIfInBounds (q%1000) true) (Bj ρ dst (gv c v)) w') [he:Ent P g]
  (hi:ops[q%1000]? =some ⟨dst,.call {callee:= .value (.func g),args:=ol.toArray,argTypes:=ts},ty,pos,af,gd⟩:=by rfl) (hk:2<=q/1000:=by decide)
  (hw:Region.wanted ⟨dst,.call {callee:= .value (.func g),args:=ol.toArray,argTypes:=ts},ty,pos,af,gd⟩ (yielded ops (Ci n ρ).tmps)=c:=by first|exact BX rfl rfl rfl rfl|exact Cc rfl rfl rfl rfl|exact C3 rfl rfl rfl rfl|exact C4 rfl rfl rfl rfl)
  (ha:c=true->ol.map (rd n ρ)=vals:=by intro hg;first|rfl|(repeat (first|exact HC|refine C2 (by first|rfl|exact B4 hg|exact B4 (Dn hg)) ?_))):RS P f n R k ops S U (q::r) l ρ w:=by
 refine⟨_,hi,c,v,hw,.inr (.inr ⟨hk,λhc1=> ?_,λhc0=> ?_⟩)⟩
 ·subst hc1;exact AB.call he.h (ha rfl) (hc rfl) λu w' hu=>by rw[hu.1];exact h w' hu.2
 subst hc0;exact h w (Ae.refl _ w)
def js (hx:X P n ρ ⟨dst,op,ty,pos,af,none⟩ w v w')(h:RL P f n R k ops rest (Bj ρ dst v) w'):RL P f n R k ops (⟨dst,op,ty,pos,af,none⟩::rest) ρ w:=RL.val hx h
def jt (hx:X P n ρ ⟨dst,op,ty,pos,af,none⟩ w v w)(h:RD P f n R k ops rest (Bj ρ dst v) w):RD P f n R k ops (⟨dst,op,ty,pos,af,none⟩::rest) ρ w:=⟨true,v,rfl,λ_=>hx,h⟩
def ju (hi:ops[q%1000]? =some ⟨dst,op,ty,pos,af,none⟩)(hk:q/1000=0)(hx:∀w,X P n ρ ⟨dst,op,ty,pos,af,none⟩ w v w)(h:RS P f n R k ops S U r (l.setIfInBounds (q%1000) true) (Bj ρ dst v) w):RS P f n R k ops S U (q::r) l ρ w:=⟨_,hi,true,v,rfl,.inl ⟨hk,λ_=>hx,h⟩⟩
def jv (hi:ops[q%1000]? =some ⟨dst,op,ty,pos,af,none⟩)(hk:q/1000=1)(hx:∀w,S w->X P n ρ ⟨dst,op,ty,pos,af,none⟩ w v w)(h:RS P f n R k ops S U r (l.setIfInBounds (q%1000) true) (Bj ρ dst v) w):RS P f n R k ops S U (q::r) l ρ w:=⟨_,hi,true,v,rfl,.inr (.inl ⟨hk,λ_=>hx,h⟩)⟩
def jw (hw:Region.wanted ⟨dst,op,ty,pos,af,g⟩ (yielded ops (Ci n ρ).tmps)=c)(hx:c=true->X P n ρ ⟨dst,op,ty,pos,af,none⟩ w v w)(h:RL P f n R k ops rest (Bj ρ dst (gv c v)) w):RL P f n R k ops (⟨dst,op,ty,pos,af,g⟩::rest) ρ w:=RL.gval hw hx h
def jy (hw:Region.wanted ⟨dst,op,ty,pos,af,g⟩ (yielded ops (Ci n ρ).tmps)=c)(hx:c=true->X P n ρ ⟨dst,op,ty,pos,af,none⟩ w v w)(h:RD P f n R k ops rest (Bj ρ dst (gv c v)) w):RD P f n R k ops (⟨dst,op,ty,pos,af,g⟩::rest) ρ w:=⟨c,v,hw,hx,h⟩
def jz (hi:ops[q%1000]? =some ⟨dst,op,ty,pos,af,g⟩)(hk:q/1000=0)(hw:Region.wanted ⟨dst,op,ty,pos,af,g⟩ (yielded ops (Ci n ρ).tmps)=c)(hx:∀w,c=true->X P n ρ ⟨dst,op,ty,pos,af,none⟩ w v w)(h:RS P f n R k ops S U r (l.setIfInBounds (q%1000) true) (Bj ρ dst (gv c v)) w):RS P f n R k ops S U (q::r) l ρ w:=⟨_,hi,c,v,hw,.inl ⟨hk,λhc w=>hx w hc,h⟩⟩
def jL (hi:ops[q%1000]? =some ⟨dst,op,ty,pos,af,g⟩)(hk:q/1000=1)(hw:Region.wanted ⟨dst,op,ty,pos,af,g⟩ (yielded ops (Ci n ρ).tmps)=c)(hx:∀w,S w->c=true->X P n ρ ⟨dst,op,ty,pos,af,none⟩ w v w)(h:RS P f n R k ops S U r (l.setIfInBounds (q%1000) true) (Bj ρ dst (gv c v)) w):RS P f n R k ops S U (q::r) l ρ w:=⟨_,hi,c,v,hw,.inr (.inl ⟨hk,λhc w hS=>hx w hS hc,h⟩)⟩
def jN (hi:ops[q%1000]? =some ⟨dst,op,ty,pos,af,g⟩)(hk:Nat.blt (q/1000) 2=true)(hw:Region.wanted ⟨dst,op,ty,pos,af,g⟩ (yielded ops (Ci n ρ).tmps)=false)(h:RS P f n R k ops S U r (l.setIfInBounds (q%1000) true) (Bj ρ dst undef) w):RS P f n R k ops S U (q::r) l ρ w:=gK h hi hk hw
def j0 (hw:Region.wanted ⟨dst,op,ty,pos,af,g⟩ (yielded ops (Ci n ρ).tmps)=false)(h:RD P f n R k ops rest (Bj ρ dst undef) w):RD P f n R k ops (⟨dst,op,ty,pos,af,g⟩::rest) ρ w:=⟨false,undef,hw,λe=>(by cases e),h⟩
def j3 (hw:Region.wanted ⟨dst,op,ty,pos,af,g⟩ (yielded ops (Ci n ρ).tmps)=false)(h:RL P f n R k ops rest (Bj ρ dst undef) w):RL P f n R k ops (⟨dst,op,ty,pos,af,g⟩::rest) ρ w:=RL.guardF hw h
def j4 (hS:CC U l=true\/S w)(h:RS P f n R k ops S U r l ρ w):LS U l S w/\RS P f n R k ops S U r l ρ w:=⟨hS,h⟩
structure Bx (B:Prop):Prop where
 h:B
def Et {A B:Prop}(h:B)(hh:Bx B->A:=by
 intro hb_;repeat first
 |apply RL.nil|apply Ai.seq|apply Ai.region|apply RS.nil|apply RD.nil|apply Ai.skip|apply Ai.inBlock|apply Ai.block|(apply Ai.exit;exact rfl)|apply Ai.label|(apply Ai.goto;exact rfl)|apply Ai.scope|apply Ai.inScope
 |(apply j4;focus (first|(refine .inr ?_;(repeat (first|exact trivial|refine⟨by assumption,?_⟩));done)|exact .inl (by kernel_rfl)))
 exact hb_.h):A:=hh ⟨h⟩
def kb {A B:Prop}(h:B)(hh:Bx B->A:=by
 intro hb_;first
 |(apply js;exact Yc)|(apply ju;exact rfl;exact rfl;(intro _;exact Yc))|(apply jt;exact Yc)
 |(apply jv;exact rfl;exact rfl;((intro _ hS_;repeat (have:=hS_.1;replace hS_:=hS_.2));exact Yc))
 |(apply jN;exact rfl;exact rfl;(first|exact DU rfl rfl rfl rfl|exact DV rfl rfl rfl rfl|exact BY rfl rfl rfl rfl))|(apply j3;(first|exact DU rfl rfl rfl rfl|exact DV rfl rfl rfl rfl|exact BY rfl rfl rfl rfl))|(apply j0;(first|exact DU rfl rfl rfl rfl|exact DV rfl rfl rfl rfl|exact BY rfl rfl rfl rfl))
 |(apply jz;exact rfl;exact rfl;(first|exact BX rfl rfl rfl rfl|exact Cc rfl rfl rfl rfl|exact C3 rfl rfl rfl rfl|exact C4 rfl rfl rfl rfl);(intro _;exact Yd))|(apply jw;(first|exact BX rfl rfl rfl rfl|exact Cc rfl rfl rfl rfl|exact C3 rfl rfl rfl rfl|exact C4 rfl rfl rfl rfl);exact Yd)|(apply jy;(first|exact BX rfl rfl rfl rfl|exact Cc rfl rfl rfl rfl|exact C3 rfl rfl rfl rfl|exact C4 rfl rfl rfl rfl);exact Yd)
 |(apply jL;exact rfl;exact rfl;(first|exact BX rfl rfl rfl rfl|exact Cc rfl rfl rfl rfl|exact C3 rfl rfl rfl rfl|exact C4 rfl rfl rfl rfl);((intro _ hS_;repeat (have:=hS_.1;replace hS_:=hS_.2));exact Yd))
 exact hb_.h):A:=hh ⟨h⟩
def jG {A B:Prop}(h:B)(hh:Bx B->A:=by
 intro hb_;repeat first
 |(apply js;exact Yc)|apply RL.nil|apply Ai.seq|apply Ai.region|apply RS.nil|apply RD.nil|apply Ai.skip|apply Ai.inBlock|apply Ai.block|(apply Ai.exit;exact rfl)|apply Ai.label|(apply Ai.goto;exact rfl)|apply Ai.scope|apply Ai.inScope
 |(apply j4;focus (first|(refine .inr ?_;(repeat (first|exact trivial|refine⟨by assumption,?_⟩));done)|exact .inl (by kernel_rfl)))
 |(apply ju;exact rfl;exact rfl;(intro _;exact Yc))|(apply jt;exact Yc)
 |(apply jv;exact rfl;exact rfl;((intro _ hS_;repeat (have:=hS_.1;replace hS_:=hS_.2));exact Yc))
 |(apply jN;exact rfl;exact rfl;(first|exact DU rfl rfl rfl rfl|exact DV rfl rfl rfl rfl|exact BY rfl rfl rfl rfl))|(apply j3;(first|exact DU rfl rfl rfl rfl|exact DV rfl rfl rfl rfl|exact BY rfl rfl rfl rfl))|(apply j0;(first|exact DU rfl rfl rfl rfl|exact DV rfl rfl rfl rfl|exact BY rfl rfl rfl rfl))
 |(apply jz;exact rfl;exact rfl;(first|exact BX rfl rfl rfl rfl|exact Cc rfl rfl rfl rfl|exact C3 rfl rfl rfl rfl|exact C4 rfl rfl rfl rfl);(intro _;exact Yd))|(apply jw;(first|exact BX rfl rfl rfl rfl|exact Cc rfl rfl rfl rfl|exact C3 rfl rfl rfl rfl|exact C4 rfl rfl rfl rfl);exact Yd)|(apply jy;(first|exact BX rfl rfl rfl rfl|exact Cc rfl rfl rfl rfl|exact C3 rfl rfl rfl rfl|exact C4 rfl rfl rfl rfl);exact Yd)
 |(apply jL;exact rfl;exact rfl;(first|exact BX rfl rfl rfl rfl|exact Cc rfl rfl rfl rfl|exact C3 rfl rfl rfl rfl|exact C4 rfl rfl rfl rfl);((intro _ hS_;repeat (have:=hS_.1;replace hS_:=hS_.2));exact Yd))
 exact hb_.h):A:=hh ⟨h⟩
def FU {A B:Prop}(h:B)(hh:Bx B->A:=by(intro hb_;refine Et ?_;refine kb ?_;refine Et ?_;exact hb_.h)):A:=hh ⟨h⟩
def ET {A B:Prop}(h:B)(hh:Bx B->A:=by(intro hb_;refine FU ?_;refine FU ?_;exact hb_.h)):A:=hh ⟨h⟩
def Ii {A B:Prop}(h:B)(hh:Bx B->A:=by(intro hb_;refine ET ?_;refine ET ?_;exact hb_.h)):A:=hh ⟨h⟩
def ke {A B:Prop}(h:B)(hh:Bx B->A:=by(intro hb_;refine Ii ?_;refine Ii ?_;exact hb_.h)):A:=hh ⟨h⟩
variable {K :Bd->World->Prop}
def jR (h:AB P f n R k ⟨dst,op,ty,pos,af,none⟩ ρ w (RL P f n R k ops rest)):RL P f n R k ops (⟨dst,op,ty,pos,af,none⟩::rest) ρ w:=RL.st rfl h
def jT (h:AB P f n R k ⟨dst,op,ty,pos,af,none⟩ ρ w (RL P f n R k ops rest))(hw:Region.wanted ⟨dst,op,ty,pos,af,g⟩ (yielded ops (Ci n ρ).tmps)=true:=by first|exact Oe rfl rfl rfl rfl|exact BJ rfl rfl rfl rfl):RL P f n R k ops (⟨dst,op,ty,pos,af,g⟩::rest) ρ w:=RL.gst hw h
def jO (hx:X P n ρ ⟨dst,op,ty,pos,af,none⟩ w v w')(h:K (Bj ρ dst v) w'):AB P f n R k ⟨dst,op,ty,pos,af,none⟩ ρ w K:=AB.val hx h
def gL {x:Value}(h:v=x:=by first|exact(rfl:_=Value.int _ _)|exact(rfl:_=Value.pointer _)|exact(rfl:_=Value.slice _ _ _)|exact(rfl:_=Value.bool _)|exact(rfl:_=Value.string _)|exact(rfl:_=Value.agg _)|exact(rfl:_=Value.iface _ _)|exact(rfl:_=Value.map _)|exact(rfl:_=Value.func _ _ _)|rfl):v=x:=h
def iX {l cs:List Value}(h:l=cs:=by first|exact(rfl:_=_::_)|rfl):l=cs:=h
def jB {e:TypeId}{x:Operand}{v:Value}{cs:List Value}(h:∀b w',w.heap.size<=b->AC w' b cs e->As w w'->K (Bj ρ dst (.pointer (some ⟨b,0,none⟩))) w')(hx:rd n ρ x=v:=by exact gL)(hc:v.cells.toList=cs:=by exact iX):
  AB P f n R k ⟨dst,.box e x,ty,pos,af,none⟩ ρ w K:=by subst hc;exact AB.box hx h
def jA {e:TypeId}{size bytes:Nat}{z:Value}{agg:Bool}{cs:List Value}[he:Ty P e size bytes z agg](h:∀b w',w.heap.size<=b->AC w' b cs e->As w w'->K (Bj ρ dst (.pointer (some ⟨b,0,none⟩))) w')(hc:z.cells.toList=cs:=by exact iX):
  AB P f n R k ⟨dst,.alloc e,ty,pos,af,none⟩ ρ w K:=by subst hc;exact AB.alloc he h
def jS {t:TypeId}{x y:Operand}{b o size bytes:Nat}{z v:Value}{agg:Bool}{c vs c':List Value}{T:TypeId}(hb:AC w b c T)(h:∀w',AC w' b c' T->Ae (one b) w w'->K ρ w')(hx:rd n ρ x= .pointer (some ⟨b,o,none⟩):=by rfl)[he:Ty P t size bytes z agg]
  (hy:rd n ρ y=v:=by exact gL) (hv:v.cells.toList=vs:=by exact iX) (hs:vs.length=size:=by rfl) (h1:vs.all (λu=>u.oneCell')=true:=by rfl)
  (hfit:Nat.ble (o+size) c.length=true:=by rfl) (hc:c.take o++vs++c.drop (o+size)=c':=by first|(simp only[AbO,AaF,AbP,List.drop_zero,List.drop_nil,AaW,Aay,Aax,Nat.reduceAdd,Aaq];exact(rfl:_=_::_))|exact rfl):
  AB P f n R k ⟨none,.store t x y,ty,pos,af,none⟩ ρ w K:=by
 subst hv hc;exact AB.store he hx hy (by simpa using hs) (λu hu=>List.all_eq_true.1 h1 u hu) hb (AbM hfit) h
def jC {g:FuncId}{ol:List Operand}{ts:Array TypeId}{vals:List Value}{Φ:Value->World->Prop}(hc:Calls P g vals.toArray w (AU Φ))(h:∀v w',Φ v w'->K (Bj ρ dst v) w')[he:Ent P g](ha:ol.map (rd n ρ)=vals:=by rfl):
  AB P f n R k ⟨dst,.call {callee:= .value (.func g),args:=ol.toArray,argTypes:=ts},ty,pos,af,none⟩ ρ w K:=AB.call he.h ha hc h
end
section
variable {P :Program}{f:FuncId}{R:Ending->World->Prop}{k:List Item}{ρ:Bd}{w:World}{m:Nat}
def jJ {fn:Func}{t:Nat}{v:Value}(hf:P.funcs[f]? =some fn)(h:R (.returned v) w)(hr:fn.results=#[.tmp t]:=by rfl)(hv:rd ⟨m,[]⟩ ρ (.tmp t)=v:=by exact gL):Ai P f ⟨m,[]⟩ R (.code .ret::k) ρ w:=Ai.ret1 hf hr hv h
def jK {fn:Func}{t u:Nat}{v x:Value}(hf:P.funcs[f]? =some fn)(h:R (.returned (.tuple #[v,x])) w)(hr:fn.results=#[.tmp t,.tmp u]:=by rfl)(hv:rd ⟨m,[]⟩ ρ (.tmp t)=v:=by exact gL)(hx:rd ⟨m,[]⟩ ρ (.tmp u)=x:=by exact gL):Ai P f ⟨m,[]⟩ R (.code .ret::k) ρ w:=Ai.ret2 hf hr hv hx h
def Aa {F:Nat->Prop}{b:Nat}(h:¬F b):∀q,F q->¬one b q:=λq hq e=>h (by rw[<-show q=b from e];exact hq)
def Bg {F:Nat->Prop}{a b:Nat}(h:a<=b)(g:∀q,F q->b<=q):∀q,F q->a<=q:=λq hq=>Aaa h (g q hq)
def GY {F S:Nat->Prop}{a b:Nat}(h:a<=b)(g:∀q,F q->b<=q):∀q,F q->q<a->S q:=λq hq hl=>absurd (Aaa h (g q hq)) (by omega)
def Ak {a b c:Nat}(h:a<b)(g:b<=c):a<c:=Aa4 h g
def An {F:Nat->Prop}{N b:Nat}(h:∀q,F q->q<N)(hl:N<=b):¬F b:=λh2=>absurd (h b h2) (by omega)
end
section
variable {P :Program}{f:FuncId}{n:FN}{R:Ending->World->Prop}{k:List Item}{ρ:Bd}{w w':World}{S:Nat->Prop}{a b c:World}
def jF {x:Operand}{y z:Code}{A B:Prop}(h1:A)(h2:B)(hh:Bx A->Bx B->Ai P f n R (.code (.cond x y z)::k) ρ w:=by
 intro ha_ hb_;refine Ai.cond rfl (λhc_=> ?_) (λhc_=> ?_);focus
  try simp only[br]at hc_
  revert hc_;exact ha_.h
 focus
  try simp only[br]at hc_
  revert hc_;exact hb_.h):Ai P f n R (.code (.cond x y z)::k) ρ w:=hh ⟨h1⟩ ⟨h2⟩
def C8 {x:Operand}{y z:Code}(h:Ai P f n R (.code y::k) ρ w)(hx:rd n ρ x= .bool true:=by rfl):Ai P f n R (.code (.cond x y z)::k) ρ w:=Ai.condT hx h
def Ax.eo {α:Type}[Enc α]{a:Option Addr}{xs:List α}(h:Ax w a xs)(i:Nat)(hi:i<xs.length:=by first|omega|(simp only[Aa3];omega)):∃b o x,xs[i]? =some x/\a=some ⟨b,o,none⟩/\Cl w b (o+i*Enc.size α) (cellsOf x):=h.el hi
def Ae.n1 {d:Nat}(h:Ae S a b)(k:Ae (one d) b c)(hd:a.heap.size<=d:=by omega):Ae S a c:=h.new k λx hx=>by rw[show x=d from hx];exact hd
def Ae.tf {d:Nat}(h:Ae S a b)(k:Ae (one d) b c)(hd:S d):Ae S a c:=h.trans k λx _ hx=>by rw[show x=d from hx];exact hd
def AC.kp {b d:Nat}{c:List Value}{T:TypeId}(h:AC w b c T)(k:Ae (one d) w w')(hd:¬one d b:=by simp only[one];omega):AC w' b c T:=h.keep k hd
def Cl.kp {b d o:Nat}{c:List Value}(h:Cl w b o c)(k:Ae (one d) w w')(hd:¬one d b:=by simp only[one];omega):Cl w' b o c:=h.keep k hd
abbrev jp (b:Nat):Value:= .pointer (some ⟨b,0,none⟩)
end
section
variable {P:Program}{f:FuncId}{n:FN}{R:Ending->World->Prop}{k:List Item}{ops:Array Oper}{rest:List Oper}{ρ:Bd}{w w':World}{dst:Option Nat}{op:Op}{ty:TypeId}{pos:String}{af:Array Edge}
def kC (i:Nat){kd:IntKind}{B:Prop}(h:B)(hx:X P n ρ ⟨dst,op,ty,pos,af,none⟩ w (.int kd ((i+1:Nat):Int)) w:=by exact AA (Av rfl rfl (by omega) (by omega)) rfl)(hh:Bx B->RL P f n R k ops rest (Bj ρ dst (.int kd ((i+1:Nat):Int))) w:=by(intro hb_;refine jG ?_;exact hb_.h)):RL P f n R k ops (⟨dst,op,ty,pos,af,none⟩::rest) ρ w:=RL.val hx (hh ⟨h⟩)
def kD {P:Program}{f:FuncId}{fn:Func}{c:Code}{n:Nat}{args:Array Value}{w:World}{R:Ending->World->Prop}{B:Prop}(hf:P.funcs[f]? =some fn)(h:B)(hb:fn.body=some c:=by rfl)(hn:fn.ntmps=n:=by rfl)(ha:Nat.ble args.size n=true:=by rfl)(hh:Bx B->Ai P f ⟨n,[]⟩ R [.code c] (JA args) w:=by(intro hb_;refine jG ?_;exact hb_.h)):Calls P f args w R:=Ac hf hb hn ha (hh ⟨h⟩)
def kE {v:Value}{B:Prop}(hx:X P n ρ ⟨dst,op,ty,pos,af,none⟩ w v w')(h:B)(hh:Bx B->RL P f n R k ops rest (Bj ρ dst v) w':=by(intro hb_;refine jG ?_;exact hb_.h)):RL P f n R k ops (⟨dst,op,ty,pos,af,none⟩::rest) ρ w:=RL.val hx (hh ⟨h⟩)
def kF {S:World->Prop}{U:List Nat}{r:List Nat}{l:Array Bool}{B:Prop}(hS:HS S w)(h:B)(hh:Bx B->RS P f n R k ops S U r l ρ w:=by(intro hb_;refine jG ?_;exact hb_.h)):∃S,S w/\RS P f n R k ops S U r l ρ w:=⟨S,hS.h,hh ⟨h⟩⟩
def kG {A B:Prop}(h:B)(hh:Bx B->A:=by(intro hb_;refine jG ?_;refine Ai.condF rfl ?_;refine jG ?_;exact hb_.h)):A:=hh ⟨h⟩
def kH {A B:Prop}(h:B)(hh:Bx B->A:=by(intro hb_;refine Ai.condF rfl ?_;refine jG ?_;exact hb_.h)):A:=hh ⟨h⟩
def kI {A B:Prop}(h:B)(hh:Bx B->A:=by(intro hb_;refine jG ?_;refine C8 ?_;refine jG ?_;exact hb_.h)):A:=hh ⟨h⟩
def kJ {A B:Prop}(h:B)(hh:Bx B->A:=by(intro hb_;refine jG ?_;refine C8 ?_;exact hb_.h)):A:=hh ⟨h⟩
def kK {A B C:Prop}(h1:A)(h2:B)(hh:Bx A->Bx B->C:=by(intro ha_ hb_;refine jG ?_;refine jF ha_.h hb_.h)):C:=hh ⟨h1⟩ ⟨h2⟩
def kL {P:Program}{f:FuncId}{R:Ending->World->Prop}{k:List Item}{ρ:Bd}{w:World}{m:Nat}{A:Prop}{fn:Func}{t:Nat}{v:Value}(hf:P.funcs[f]? =some fn)(h:R (.returned v) w)(hh:Bx (Ai P f ⟨m,[]⟩ R (.code .ret::k) ρ w)->A:=by(intro hb_;refine jG ?_;exact hb_.h))(hr:fn.results=#[.tmp t]:=by rfl)(hv:rd ⟨m,[]⟩ ρ (.tmp t)=v:=by exact gL):A:=hh ⟨Ai.ret1 hf hr hv h⟩
def kM {P:Program}{f:FuncId}{R:Ending->World->Prop}{k:List Item}{ρ:Bd}{w:World}{m:Nat}{A:Prop}{fn:Func}{t u:Nat}{v x:Value}(hf:P.funcs[f]? =some fn)(h:R (.returned (.tuple #[v,x])) w)(hh:Bx (Ai P f ⟨m,[]⟩ R (.code .ret::k) ρ w)->A:=by(intro hb_;refine jG ?_;exact hb_.h))(hr:fn.results=#[.tmp t,.tmp u]:=by rfl)(hv:rd ⟨m,[]⟩ ρ (.tmp t)=v:=by exact gL)(hx:rd ⟨m,[]⟩ ρ (.tmp u)=x:=by exact gL):A:=hh ⟨Ai.ret2 hf hr hv hx h⟩
def kN {A:Prop}{e:TypeId}{x:Operand}{v:Value}{cs:List Value}(h:∀b w',w.heap.size<=b->AC w' b cs e->As w w'->RL P f n R k ops rest (Bj ρ dst (.pointer (some ⟨b,0,none⟩))) w')(hh:Bx (RL P f n R k ops (⟨dst,.box e x,ty,pos,af,none⟩::rest) ρ w)->A:=by(intro hb_;refine jG ?_;exact hb_.h))(hx:rd n ρ x=v:=by exact gL)(hc:v.cells.toList=cs:=by exact iX):A:=hh ⟨jR (jB h hx hc)⟩
def kP {A:Prop}{e:TypeId}{size bytes:Nat}{z:Value}{agg:Bool}{cs:List Value}(h:∀b w',w.heap.size<=b->AC w' b cs e->As w w'->RL P f n R k ops rest (Bj ρ dst (.pointer (some ⟨b,0,none⟩))) w')(hh:Bx (RL P f n R k ops (⟨dst,.alloc e,ty,pos,af,none⟩::rest) ρ w)->A:=by(intro hb_;refine jG ?_;exact hb_.h))[he:Ty P e size bytes z agg](hc:z.cells.toList=cs:=by exact iX):A:=hh ⟨jR (jA h hc)⟩
def kQ {e:TypeId}{x:Operand}{v:Value}{cs:List Value}(h:∀b w',w.heap.size<=b->AC w' b cs e->As w w'->RL P f n R k ops rest (Bj ρ dst (.pointer (some ⟨b,0,none⟩))) w')(hx:rd n ρ x=v:=by exact gL)(hc:v.cells.toList=cs:=by exact iX):RL P f n R k ops (⟨dst,.box e x,ty,pos,af,none⟩::rest) ρ w:=jR (jB h hx hc)
def kR {e:TypeId}{size bytes:Nat}{z:Value}{agg:Bool}{cs:List Value}[he:Ty P e size bytes z agg](h:∀b w',w.heap.size<=b->AC w' b cs e->As w w'->RL P f n R k ops rest (Bj ρ dst (.pointer (some ⟨b,0,none⟩))) w')(hc:z.cells.toList=cs:=by exact iX):RL P f n R k ops (⟨dst,.alloc e,ty,pos,af,none⟩::rest) ρ w:=jR (jA h hc)
def kS {g:FuncId}{ol:List Operand}{ts:Array TypeId}{vals:List Value}{Φ:Value->World->Prop}(hc:Calls P g vals.toArray w (AU Φ))(h:∀v w',Φ v w'->RL P f n R k ops rest (Bj ρ dst v) w')[he:Ent P g](ha:ol.map (rd n ρ)=vals:=by rfl):RL P f n R k ops (⟨dst,.call {callee:= .value (.func g),args:=ol.toArray,argTypes:=ts},ty,pos,af,none⟩::rest) ρ w:=jR (jC hc h ha)
end
end Go.Proofs.YtjkaicjmfgekjaaGreatDoor
