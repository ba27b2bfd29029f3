/-
  Mac
-/
import Derived.Test.YtjkaicjmfgekjaaGreatDoorPkMake
import Derived.Test.YtjkaicjmfgekjaaGreatDoorPkErr
import Derived.Test.YtjkaicjmfgekjaaGreatDoorPkCopy
import Derived.Test.YtjkaicjmfgekjaaGreatDoorPkPlain
set_option linter.all false
namespace Go.Proofs.YtjkaicjmfgekjaaGreatDoor
class Und (P:Program)(t:TypeId)(d:outParam TypeDesc):Prop where
 h:P.underlying t=some d
class Fld (P:Program)(t i:Nat)(off ft:outParam Nat):Prop where
 h:∃fs fd,P.underlying t=some (.struct fs)∧fs[i]? =some fd∧fd.offset=off∧fd.type=ft
theorem Fld.of {P:Program}{t i off ft:Nat}{fs:Array Field}{fd:Field}(h:P.underlying t=some (.struct fs))(h1:fs[i]? =some fd:=by rfl)(h2:fd.offset=off:=by rfl)(h3:fd.type=ft:=by rfl):Fld P t i off ft:=⟨fs,fd,h,h1,h2,h3⟩
class Ent (P:Program)(g:FuncId):Prop where
 h:DB P g
theorem Ent.of {P:Program}{g:FuncId}{fn:Func}{c:Code}(hf:P.funcs[g]? =some fn)(hb:fn.body=some c:=by rfl)(hn:(fn.name== "runtime.NumGoroutine")=false:=by kernel_rfl):Ent P g:=⟨Du hf hb hn⟩
theorem Ty.of {P:Program}{t:TypeId}{size bytes:Nat}{z:Value}{agg:Bool}(h:(P.info? t).map (fun i=>(i.zero,i.size,i.bytes))=some (some z,size,bytes):=by kernel_rfl)
  (h2:(P.underlying t).map aggDesc=some agg:=by kernel_rfl):Ty P t size bytes z agg:=Xu h h2
theorem mixP {P:Program}(h:(P.follows .mixedOrders)=true):P.follows .mixedOrders=true:=h
section
variable {P :Program}{n:FN}{ρ:A8}{w:World}{dst:Option Nat}{ty:TypeId}{pos:String}{af:Array Edge}{g:Option (Nat×Bool)}
theorem QH {t e:TypeId}{x:Operand}{a:Option Addr}{l c:Nat}[u:Und P t (.slice e)](hx:rd n ρ x= .slice a l c):
  X P n ρ ⟨dst,.call {callee:= .builtin .len,args:=#[x],argTypes:=#[t]},ty,pos,af,g⟩ w (.int .i64 (l:Int)) w:=Cw u.h hx
theorem XA {t:TypeId}{x:Operand}{b o o' i size bytes off ft:Nat}{z:Value}{agg:Bool}(hx:rd n ρ x= .pointer (some ⟨b,o,none⟩))[u:Fld P t i off ft][e:Ty P ft size bytes z agg]
  (h0:(size==0)=false) (ho:o+off=o'):X P n ρ ⟨dst,.fieldAddr t x i,ty,pos,af,g⟩ w (.pointer (some ⟨b,o',none⟩)) w:=by
 obtain⟨fs,fd,h1,h2,h3,h4⟩:=u.h
 subst h3 h4
 exact Jf h1 h2 e h0 hx ho
theorem TI {t:TypeId}{x:Operand}{i size bytes off ft:Nat}{z:Value}{cs:Array Value}{v:Value}(hx:rd n ρ x= .agg cs)[u:Fld P t i off ft][e:Ty P ft size bytes z false](hv:cs[off]? =some v):
  X P n ρ ⟨dst,.field t x i,ty,pos,af,g⟩ w v w:=by
 obtain⟨fs,fd,h1,h2,h3,h4⟩:=u.h
 subst h3 h4
 exact X2 h1 h2 e hx hv
theorem ZK {t:TypeId}{x:Operand}{b o size bytes:Nat}{z v:Value}{c:List Value}{T:TypeId}(hx:rd n ρ x= .pointer (some ⟨b,o,none⟩))[e:Ty P t size bytes z false](hb:AB w b c T)(hc:c[o]? =some v)(hv:v.oneCell'=true):
  X P n ρ ⟨dst,.load t x,ty,pos,af,g⟩ w v w:=HI e hx hv (by have:=hb.cl.field hc;rwa[Aaq]at this)
theorem XB {t:TypeId}{x:Operand}{b o size bytes:Nat}{z:Value}{c l:List Value}{T:TypeId}(hx:rd n ρ x= .pointer (some ⟨b,o,none⟩))[e:Ty P t size bytes z true](hb:AB w b c T)(hc:(c.drop o).take size=l)(hs:l.length=size):
  X P n ρ ⟨dst,.load t x,ty,pos,af,g⟩ w (.agg l.toArray) w:=Xx e hx (by simpa using hs) (by have:=hb.cl.drop o size;rw[Aaq,hc]at this;simpa using this)
theorem XC {α:Type}{inst:Enc α}{t:TypeId}{x:Operand}{b o size bytes:Nat}{z v:Value}{agg:Bool}{y:α}(hx:rd n ρ x= .pointer (some ⟨b,o,none⟩))[e:Ty P t size bytes z agg](hc:Cl w b o (cellsOf y))(hv:Enc.val y=v)(hs:size=Enc.size α)(ha:agg=Enc.agg α):
  X P n ρ ⟨dst,.load t x,ty,pos,af,g⟩ w v w:=by subst hs ha;exact BQ e hx hc hv
theorem XD {t e:TypeId}{x ix:Operand}{a:Option Addr}{b o l c size bytes:Nat}{z:Value}{agg:Bool}{kd:IntKind}{i:Nat}(hx:rd n ρ x= .slice a l c)(hi:rd n ρ ix= .int kd (i:Int))
  [u:Und P t (.slice e)] [s:Ty P e size bytes z agg] (ha:a=some ⟨b,o,none⟩) (h1:i<l):X P n ρ ⟨dst,.indexAddr t x ix,ty,pos,af,g⟩ w (.pointer (some ⟨b,o+i*size,none⟩)) w:=AS u.h s hx hi ha h1
end
section
variable {P :Program}{n:FN}{ρ:A8}{w w':World}{o:Oper}{v:Value}
theorem XE (h:X P n ρ o w v w:=by
 first
 |(apply DK;exact rfl)|(apply FY;exact rfl)|(apply Qs;exact rfl)|(apply Qr;exact rfl)
 |(apply JH;exact rfl)|(apply Qt;exact rfl)|(apply Qv;exact rfl)|(apply E0;exact rfl)
 |(apply LA;exact rfl)|(apply J6;exact rfl)|(apply LC;exact rfl)|(apply LB;exact rfl)
 |(apply LD;exact rfl)|(apply LF;exact rfl)|(apply XA;exact rfl;exact rfl;(first|exact Aaq _|exact rfl))|(apply J8;exact rfl)
 |(apply QH;exact rfl)|(apply ZK;exact rfl;assumption;exact rfl;exact rfl)|(apply XB;exact rfl;assumption;(first|(simp only[Aaq,Nat.reduceAdd,AbP,List.drop_zero,Abi,AaE,List.take_nil];exact(rfl:_=_::_))|exact(rfl:_=[_,_])|exact(rfl:_=[_,_,_])|exact(rfl:_=[_])|exact(rfl:_=[_,_,_,_])|exact(rfl:_=[_,_,_,_,_])|exact rfl);exact rfl)|(apply XC;exact rfl;assumption;exact rfl;exact rfl;exact rfl)
 |(apply DN;apply H2<;>exact rfl;decide)|(apply D9;apply H2<;>exact rfl;decide)|(apply H2<;>exact rfl)
 |(apply DN;apply FZ<;>exact rfl;decide)|(apply D9;apply FZ<;>exact rfl;decide)|(apply FZ<;>exact rfl)
 |(apply DN;apply Nu<;>exact rfl;decide)|(apply D9;apply Nu<;>exact rfl;decide)|(apply Nu<;>exact rfl)
 |(apply DN;apply GR<;>exact rfl;decide)|(apply D9;apply GR<;>exact rfl;decide)|(apply GR<;>exact rfl)
 |(apply DN;apply Nv<;>exact rfl;decide)|(apply D9;apply Nv<;>exact rfl;decide)|(apply Nv<;>exact rfl)
 |(apply DN;apply LH<;>exact rfl;decide)|(apply D9;apply LH<;>exact rfl;decide)|(apply LH<;>exact rfl)
 |(apply Bn;exact rfl)|(apply DV;exact rfl;exact rfl)
 |(apply XD;exact rfl;exact rfl;assumption;first|omega|(simp only[Aa3];omega))|(apply TI;exact rfl;exact rfl)|(apply Qw;exact rfl)|(apply LG;exact rfl)
 |(apply Qu;exact rfl)|(apply LE;exact rfl)|(apply Nt;exact rfl)|(apply J7;exact rfl)):X P n ρ o w v w:=h
theorem gq {c:Bool}{v x:Value}(hg:c=true)(h:v=gv c x):v=x:=by rw[h];exact BR hg
theorem XF {c:Bool}(h:c=true->X P n ρ o w v w:=by
 intro hg
 first
 |(apply DK;(first|exact rfl|exact BR hg|exact BR (Dc hg)))|(apply FY;(first|exact rfl|exact BR hg|exact BR (Dc hg)))|(apply Qs;(first|exact rfl|exact BR hg|exact BR (Dc hg)))|(apply Qr;(first|exact rfl|exact BR hg|exact BR (Dc hg)))
 |(apply JH;(first|exact rfl|exact BR hg|exact BR (Dc hg)))|(apply Qt;(first|exact rfl|exact BR hg|exact BR (Dc hg)))|(apply Qv;(first|exact rfl|exact BR hg|exact BR (Dc hg)))|(apply E0;(first|exact rfl|exact BR hg|exact BR (Dc hg)))
 |(apply LA;(first|exact rfl|exact BR hg|exact BR (Dc hg)))|(apply J6;(first|exact rfl|exact BR hg|exact BR (Dc hg)))|(apply LC;(first|exact rfl|exact BR hg|exact BR (Dc hg)))|(apply LB;(first|exact rfl|exact BR hg|exact BR (Dc hg)))
 |(apply LD;(first|exact rfl|exact BR hg|exact BR (Dc hg)))|(apply LF;(first|exact rfl|exact BR hg|exact BR (Dc hg)))|(apply XA;(first|exact rfl|exact BR hg|exact BR (Dc hg));exact rfl;(first|exact Aaq _|exact rfl))|(apply J8;(first|exact rfl|exact BR hg|exact BR (Dc hg)))
 |(apply QH;(first|exact rfl|exact BR hg|exact BR (Dc hg)))|(apply ZK;(first|exact rfl|exact BR hg|exact BR (Dc hg));assumption;exact rfl;exact rfl)|(apply XB;(first|exact rfl|exact BR hg|exact BR (Dc hg));assumption;(first|(simp only[Aaq,Nat.reduceAdd,AbP,List.drop_zero,Abi,AaE,List.take_nil];exact(rfl:_=_::_))|exact(rfl:_=[_,_])|exact(rfl:_=[_,_,_])|exact(rfl:_=[_])|exact(rfl:_=[_,_,_,_])|exact(rfl:_=[_,_,_,_,_])|exact rfl);exact rfl)|(apply XC;(first|exact rfl|exact BR hg|exact BR (Dc hg));assumption;exact rfl;exact rfl;exact rfl)
 |(apply H2<;>(first|exact rfl|exact BR hg|exact BR (Dc hg)))|(apply FZ<;>(first|exact rfl|exact BR hg|exact BR (Dc hg)))|(apply Nu<;>(first|exact rfl|exact BR hg|exact BR (Dc hg)))|(apply GR<;>(first|exact rfl|exact BR hg|exact BR (Dc hg)))
 |(apply Nv<;>(first|exact rfl|exact BR hg|exact BR (Dc hg)))|(apply LH<;>(first|exact rfl|exact BR hg|exact BR (Dc hg)))|(apply Bn;(first|exact rfl|exact BR hg|exact BR (Dc hg)))|(apply DV;(first|exact rfl|exact BR hg|exact BR (Dc hg));exact rfl)
 |(apply XD;(first|exact rfl|exact BR hg|exact BR (Dc hg));(first|exact rfl|exact BR hg|exact BR (Dc hg));assumption;first|omega|(simp only[Aa3];omega))|(apply TI;(first|exact rfl|exact BR hg|exact BR (Dc hg));exact rfl)|(apply Qw;(first|exact rfl|exact BR hg|exact BR (Dc hg)))|(apply LG;(first|exact rfl|exact BR hg|exact BR (Dc hg)))
 |(apply Qu;(first|exact rfl|exact BR hg|exact BR (Dc hg)))|(apply LE;(first|exact rfl|exact BR hg|exact BR (Dc hg)))|(apply Nt;(first|exact rfl|exact BR hg|exact BR (Dc hg)))|(apply J7;(first|exact rfl|exact BR hg|exact BR (Dc hg)))):c=true->X P n ρ o w v w:=h
end
section
variable {P :Program}{f:FuncId}{n:FN}{R:Ending->World->Prop}{k:List Item}{ops:Array Oper}{rest:List Oper}{ρ:A8}{w w':World}
variable {dst :Option Nat}{op:Op}{ty:TypeId}{pos:String}{af:Array Edge}{o:Oper}{v:Value}{g:Option (Nat×Bool)}{c:Bool}
theorem jV (hx:X P n ρ ⟨dst,op,ty,pos,af,none⟩ w v w')(h:RL P f n R k ops rest (Bc ρ dst v) w'):RL P f n R k ops (⟨dst,op,ty,pos,af,none⟩::rest) ρ w:=RL.val hx h
theorem jW (h:RL P f n R k ops rest (Bc ρ dst (gv c v)) w)(hw:Region.wanted ⟨dst,op,ty,pos,af,g⟩ (yielded ops (B6 n ρ).tmps)=c:=by first|exact BL rfl rfl rfl rfl|exact BZ rfl rfl rfl rfl|exact CS rfl rfl rfl rfl|exact CT rfl rfl rfl rfl)(hx:c=true->X P n ρ ⟨dst,op,ty,pos,af,none⟩ w v w):RL P f n R k ops (⟨dst,op,ty,pos,af,g⟩::rest) ρ w:=RL.gval hw hx h
def TJ (m:Nat):Nat->Array Bool
 |0=>Array.replicate m false
 |i+1=>(TJ m i).setIfInBounds i true
def TK (ops:Array Oper):Bool:=((List.range ops.size).all fun i=>GK ops (TJ ops.size i) i)&&(Region.ready .any ops (TJ ops.size ops.size)).isEmpty
def RD (P:Program)(f:FuncId)(n:FN)(R:Ending->World->Prop)(k:List Item)(ops:Array Oper):List Oper->A8->World->Prop
 |[],ρ,w=>Ai P f n R k ρ w
 |o::l,ρ,w=>∃c v,Region.wanted o (yielded ops (B6 n ρ).tmps)=c∧(c=true->X P n ρ {o with guard:=none} w v w)∧RD P f n R k ops l (Bc ρ o.dst (gv c v)) w
theorem RD.ra (hb : TK ops = true) : ∀ (l : List Oper) (i : Nat) (ρ : A8), ops.toList.drop i = l -> RD P f n R k ops l ρ w -> RA P f n R k ops (· = w) (ops.size - i) (TJ ops.size i) ρ w := by
  simp only [TK, Aao, AbR, List.mem_range] at hb
  obtain ⟨h1, h2⟩ := hb
  have h2' : Region.ready .any ops (TJ ops.size ops.size) = [] := by simpa using h2
  intro l
  induction l with
  | nil =>
    intro i ρ hl h
    have hi : ops.size <= i := by simpa using List.drop_eq_nil_iff.1 hl
    have key : ∀ j, TJ ops.size (ops.size + j) = TJ ops.size ops.size := by
      intro j
      induction j with
      | zero => rfl
      | succ j ih => rw [<- Abr, TJ, ih]; apply Array.setIfInBounds_eq_of_size_le; have : ∀ m i, (TJ m i).size = m := by { intro m i; induction i with | zero => simp [TJ] | succ i ih => simp [TJ, ih] }; rw [this]; omega
    obtain ⟨j, rfl⟩ : ∃ j, i = ops.size + j := ⟨i - ops.size, by omega⟩
    rw [key]
    exact RA.done h2' h
  | cons o l ih =>
    intro i ρ hl h
    have hi : i < ops.size := by
      rcases Abo i ops.size with h | h
      · exact h
      · rw [AaY (by simpa using h)] at hl; cases hl
    have ho : ops[i]? = some o := by
      have := congrArg (·[0]?) hl
      simpa using this
    obtain ⟨c, v, hw, hx, hr⟩ := h
    obtain ⟨d, p, t, ps, a, g⟩ := o
    have e : ops.size - i = (ops.size - (i + 1)) + 1 := by omega
    rw [e]
    refine RA.gtake (v := v) (c := c) i ho (h1 i hi) rfl hw (fun hc => by rintro _ rfl; exact hx hc) ?_
    exact ih (i + 1) _ (by rw [<- Aa5, hl]; rfl) hr
theorem Ai.drawR {id:Nat}(h:∀w',Ap w w'->RD P f n R k ops ops.toList ρ w')(hm:P.follows .mixedOrders=true:=by kernel_rfl)(hb:TK ops=true:=by kernel_rfl):Ai P f n R (.code (.region id ops true)::k) ρ w:=
 Ai.draw' hm rfl fun w' K=>RD.ra hb _ 0 _ rfl (h w' K)
theorem RD.nil (h:Ai P f n R k ρ w):RD P f n R k ops [] ρ w:=h
theorem jD (hx:X P n ρ ⟨dst,op,ty,pos,af,none⟩ w v w)(h:RD P f n R k ops rest (Bc ρ dst v) w):RD P f n R k ops (⟨dst,op,ty,pos,af,none⟩::rest) ρ w:=⟨true,v,rfl,fun _=>hx,h⟩
theorem jE (h:RD P f n R k ops rest (Bc ρ dst (gv c v)) w)(hw:Region.wanted ⟨dst,op,ty,pos,af,g⟩ (yielded ops (B6 n ρ).tmps)=c:=by first|exact BL rfl rfl rfl rfl|exact BZ rfl rfl rfl rfl|exact CS rfl rfl rfl rfl|exact CT rfl rfl rfl rfl)(hx:c=true->X P n ρ ⟨dst,op,ty,pos,af,none⟩ w v w):RD P f n R k ops (⟨dst,op,ty,pos,af,g⟩::rest) ρ w:=⟨c,v,hw,hx,h⟩
end
def Ki (ops : Array Oper) (U : List Nat) : List Nat -> Array Bool -> Bool
  | [], l => (Region.ready .any ops l).isEmpty
  | c :: r, l => (match c / 1000 with
    | 0 => Ke ops U l (c % 1000)
    | 1 => H5 ops U l (c % 1000)
    | _ => decide (Region.ready .any ops l = [c % 1000])) && Ki ops U r (l.setIfInBounds (c % 1000) true)
def LS (U:List Nat)(l:Array Bool)(S:World->Prop)(w:World):Prop:=Cn U l=true∨S w
def RS (P : Program) (f : FuncId) (n : FN) (R : Ending -> World -> Prop) (k : List Item) (ops : Array Oper) (S : World -> Prop) (U : List Nat) : List Nat -> Array Bool -> A8 -> World -> Prop
  | [], _, ρ, w => Ai P f n R k ρ w
  | c :: r, l, ρ, w => ∃ o, ops[c % 1000]? = some o ∧ ∃ b v, Region.wanted o (yielded ops (B6 n ρ).tmps) = b ∧
    ((c / 1000 = 0 ∧ (b = true -> ∀ w, X P n ρ { o with guard := none } w v w) ∧ RS P f n R k ops S U r (l.setIfInBounds (c % 1000) true) (Bc ρ o.dst (gv b v)) w) ∨
     (c / 1000 = 1 ∧ (b = true -> ∀ w, S w -> X P n ρ { o with guard := none } w v w) ∧ RS P f n R k ops S U r (l.setIfInBounds (c % 1000) true) (Bc ρ o.dst (gv b v)) w) ∨
     (2 <= c / 1000 ∧ (b = true -> AA P f n R k { o with guard := none } ρ w (fun ρ' w' => LS U (l.setIfInBounds (c % 1000) true) S w' ∧ RS P f n R k ops S U r (l.setIfInBounds (c % 1000) true) ρ' w')) ∧
      (b = false -> LS U (l.setIfInBounds (c % 1000) true) S w ∧ RS P f n R k ops S U r (l.setIfInBounds (c % 1000) true) (Bc ρ o.dst undef) w)))
section
variable {P :Program}{f:FuncId}{n:FN}{R:Ending->World->Prop}{k:List Item}{ops:Array Oper}{rest:List Oper}{ρ:A8}{w w':World}
variable {dst :Option Nat}{op:Op}{ty:TypeId}{pos:String}{af:Array Edge}{o:Oper}{v:Value}{g:Option (Nat×Bool)}{c:Bool}{S:World->Prop}{U:List Nat}{q:Nat}{r:List Nat}{l:Array Bool}
theorem Pf {i:Nat}(h:Ke ops U l i=true):Cn U (l.setIfInBounds i true)=Cn U l:=by
 simp only[Ke,Aao]at h
 exact CW (by simpa using h.2)
theorem Pg {i:Nat}(h:H5 ops U l i=true):Cn U l=false∧Cn U (l.setIfInBounds i true)=Cn U l:=by
 simp only[H5,Aao,AaO,vB]at h
 exact⟨h.2,CW (by simpa using h.1.2.1)⟩
theorem RS.rt : ∀ (sch : List Nat) (fuel : Nat) (l : Array Bool) (ρ : A8) (w : World), Ki ops U sch l = true -> sch.length <= fuel -> (Cn U l = true ∨ S w) -> RS P f n R k ops S U sch l ρ w -> RT P f n R k ops S U fuel l ρ w := by
  intro sch
  induction sch with
  | nil => intro fuel l ρ w hb _ _ h; exact RT.done (by simpa [Ki] using hb) h
  | cons q r ih =>
    intro fuel l ρ w hb hf hS h
    obtain ⟨o, ho, b, v, hw, h⟩ := h
    rw [Ki, Aao] at hb
    obtain ⟨hb, hr⟩ := hb
    obtain ⟨m, rfl⟩ : ∃ m, fuel = m + 1 := ⟨fuel - 1, by simp only [Aaj] at hf; omega⟩
    have hf' : r.length <= m := by simp only [Aaj] at hf; omega
    obtain ⟨d, p, t, ps, a, g⟩ := o
    rcases h with ⟨hk, hx, h⟩ | ⟨hk, hx, h⟩ | ⟨hk, hx, h⟩
    · rw [hk] at hb
      exact RT.gtakeP (v := v) (c := b) _ ho hb hS hw hx (ih m _ _ _ hr hf' (by rw [Pf hb]; exact hS) h)
    · rw [hk] at hb
      have hS' : S w := hS.resolve_left (by rw [(Pg hb).1]; decide)
      exact RT.gtake (v := v) (c := b) _ ho hb hS' hw hx (ih m _ _ _ hr hf' (.inr hS') h)
    · have hb' : Region.ready .any ops l = [q % 1000] := by
        have : q / 1000 ≠ 0 ∧ q / 1000 ≠ 1 := by omega
        revert hb
        split
        · rename_i e; exact absurd e this.1
        · rename_i e; exact absurd e this.2
        · intro hb; simpa using hb
      cases b with
      | true =>
        refine RT.one _ ho hb' ?_
        unfold wpOp
        simp only [ho, hw, if_true]
        have h3 : Oper.wp P ⟨d, p, t, ps, a, none⟩ (B6 n ρ) w (fun a' w' => ∃ ρ', a' = B6 n ρ' ∧ (Cn U (l.setIfInBounds (q % 1000) true) = true ∨ S w') ∧ RT P f n R k ops S U m (l.setIfInBounds (q % 1000) true) ρ' w') (IG P f n R k) := by
          refine Oper.wp_mono ?_ (hx rfl)
          rintro a' w' ⟨ρ', rfl, h1, h2⟩
          exact ⟨ρ', rfl, h1, ih m _ _ _ hr hf' h1 h2⟩
        exact .inl h3
      | false =>
        obtain ⟨h1, h2⟩ := h rfl
        exact RT.gT _ ho hb' hw h1 (ih m _ _ _ hr hf' h1 h2)
theorem Ai.drawS {id:Nat}(U:List Nat)(sch:List Nat)(h:∀w',Ap w w'->∃S,S w'∧RS P f n R k ops S U sch (Array.replicate ops.size false) ρ w')(hm:P.follows .mixedOrders=true:=by kernel_rfl)
  (hb:(Ki ops U sch (Array.replicate ops.size false)&&Nat.ble sch.length ops.size)=true:=by kernel_rfl):Ai P f n R (.code (.region id ops true)::k) ρ w:=by
 rw[Aao]at hb
 refine Ai.drawT U hm rfl fun w' K=> ?_
 obtain⟨S,hS,h⟩:=h w' K
 exact⟨S,RS.rt sch _ _ _ _ hb.1 (AbM hb.2) (.inr hS) h⟩
structure HS (S:World->Prop)(w:World):Prop where
 h:S w
theorem Jn :HS (fun _=>True) w:=⟨trivial⟩
theorem jb {b:Nat}{c:List Value}{T:TypeId}(h:AB w b c T)(r:HS S w):HS (fun w'=>AB w' b c T∧S w') w:=⟨⟨h,r.h⟩⟩
theorem jl {b o:Nat}{c:List Value}(h:Cl w b o c)(r:HS S w):HS (fun w'=>Cl w' b o c∧S w') w:=⟨⟨h,r.h⟩⟩
theorem jM (hS:HS S w)(h:RS P f n R k ops S U r l ρ w):∃S,S w∧RS P f n R k ops S U r l ρ w:=⟨S,hS.h,h⟩
theorem RS.nil (h:Ai P f n R k ρ w):RS P f n R k ops S U [] l ρ w:=h
theorem jP (h:RS P f n R k ops S U r (l.setIfInBounds (q%1000) true) (Bc ρ dst v) w)(hi:ops[q%1000]? =some ⟨dst,op,ty,pos,af,none⟩:=by rfl)(hk:q/1000=0:=by rfl)(hx:∀w,X P n ρ ⟨dst,op,ty,pos,af,none⟩ w v w):RS P f n R k ops S U (q::r) l ρ w:=⟨_,hi,true,v,rfl,.inl ⟨hk,fun _=>hx,h⟩⟩
theorem jQ (h:RS P f n R k ops S U r (l.setIfInBounds (q%1000) true) (Bc ρ dst (gv c v)) w)(hi:ops[q%1000]? =some ⟨dst,op,ty,pos,af,g⟩:=by rfl)(hk:q/1000=0:=by rfl)(hw:Region.wanted ⟨dst,op,ty,pos,af,g⟩ (yielded ops (B6 n ρ).tmps)=c:=by first|exact BL rfl rfl rfl rfl|exact BZ rfl rfl rfl rfl|exact CS rfl rfl rfl rfl|exact CT rfl rfl rfl rfl)(hx:∀w,c=true->X P n ρ ⟨dst,op,ty,pos,af,none⟩ w v w):RS P f n R k ops S U (q::r) l ρ w:=⟨_,hi,c,v,hw,.inl ⟨hk,fun hc w=>hx w hc,h⟩⟩
theorem ZL (h:RS P f n R k ops S U r (l.setIfInBounds (q%1000) true) (Bc ρ dst undef) w)(hi:ops[q%1000]? =some ⟨dst,op,ty,pos,af,g⟩:=by rfl)(hk:Nat.blt (q/1000) 2=true:=by rfl)
  (hw:Region.wanted ⟨dst,op,ty,pos,af,g⟩ (yielded ops (B6 n ρ).tmps)=false:=by first|exact DD rfl rfl rfl rfl|exact DE rfl rfl rfl rfl|exact BM rfl rfl rfl rfl):RS P f n R k ops S U (q::r) l ρ w:=by
 have hk':q/1000=0∨q/1000=1:=by have:=AbM hk;omega
 rcases hk' with hk|hk
 ·exact⟨_,hi,false,undef,hw,.inl ⟨hk,fun e=>(by cases e),h⟩⟩
 ·exact⟨_,hi,false,undef,hw,.inr (.inl ⟨hk,fun e=>(by cases e),h⟩)⟩
theorem kd0 (h:RD P f n R k ops rest (Bc ρ dst undef) w)(hw:Region.wanted ⟨dst,op,ty,pos,af,g⟩ (yielded ops (B6 n ρ).tmps)=false:=by first|exact DD rfl rfl rfl rfl|exact DE rfl rfl rfl rfl|exact BM rfl rfl rfl rfl):RD P f n R k ops (⟨dst,op,ty,pos,af,g⟩::rest) ρ w:=⟨false,undef,hw,fun e=>(by cases e),h⟩
theorem kv0 (h:RL P f n R k ops rest (Bc ρ dst undef) w)(hw:Region.wanted ⟨dst,op,ty,pos,af,g⟩ (yielded ops (B6 n ρ).tmps)=false:=by first|exact DD rfl rfl rfl rfl|exact DE rfl rfl rfl rfl|exact BM rfl rfl rfl rfl):RL P f n R k ops (⟨dst,op,ty,pos,af,g⟩::rest) ρ w:=RL.guardF hw h
theorem jH (h:RS P f n R k ops S U r (l.setIfInBounds (q%1000) true) (Bc ρ dst v) w)(hi:ops[q%1000]? =some ⟨dst,op,ty,pos,af,none⟩:=by rfl)(hk:q/1000=1:=by rfl)(hx:∀w,S w->X P n ρ ⟨dst,op,ty,pos,af,none⟩ w v w):RS P f n R k ops S U (q::r) l ρ w:=⟨_,hi,true,v,rfl,.inr (.inl ⟨hk,fun _=>hx,h⟩)⟩
theorem jI (h:RS P f n R k ops S U r (l.setIfInBounds (q%1000) true) (Bc ρ dst (gv c v)) w)(hi:ops[q%1000]? =some ⟨dst,op,ty,pos,af,g⟩:=by rfl)(hk:q/1000=1:=by rfl)(hw:Region.wanted ⟨dst,op,ty,pos,af,g⟩ (yielded ops (B6 n ρ).tmps)=c:=by first|exact BL rfl rfl rfl rfl|exact BZ rfl rfl rfl rfl|exact CS rfl rfl rfl rfl|exact CT rfl rfl rfl rfl)(hx:c=true->∀w,S w->X P n ρ ⟨dst,op,ty,pos,af,none⟩ w v w):RS P f n R k ops S U (q::r) l ρ w:=⟨_,hi,c,v,hw,.inr (.inl ⟨hk,hx,h⟩)⟩
theorem jU (hi:ops[q%1000]? =some ⟨dst,op,ty,pos,af,none⟩)(h:AA P f n R k ⟨dst,op,ty,pos,af,none⟩ ρ w (fun ρ' w'=>LS U (l.setIfInBounds (q%1000) true) S w'∧RS P f n R k ops S U r (l.setIfInBounds (q%1000) true) ρ' w'))(hk:2<=q/1000:=by decide):RS P f n R k ops S U (q::r) l ρ w:=⟨_,hi,true,undef,rfl,.inr (.inr ⟨hk,fun _=>h,fun e=>(by cases e)⟩)⟩
theorem jX (hi:ops[q%1000]? =some ⟨dst,op,ty,pos,af,g⟩)(h:AA P f n R k ⟨dst,op,ty,pos,af,none⟩ ρ w (fun ρ' w'=>LS U (l.setIfInBounds (q%1000) true) S w'∧RS P f n R k ops S U r (l.setIfInBounds (q%1000) true) ρ' w'))(hk:2<=q/1000:=by decide)(hw:Region.wanted ⟨dst,op,ty,pos,af,g⟩ (yielded ops (B6 n ρ).tmps)=true:=by first|exact Ny rfl rfl rfl rfl|exact Nz rfl rfl rfl rfl):RS P f n R k ops S U (q::r) l ρ w:=⟨_,hi,true,undef,hw,.inr (.inr ⟨hk,fun _=>h,fun e=>(by cases e)⟩)⟩
theorem jY (h:LS U (l.setIfInBounds (q%1000) true) S w∧RS P f n R k ops S U r (l.setIfInBounds (q%1000) true) (Bc ρ dst undef) w)(hi:ops[q%1000]? =some ⟨dst,op,ty,pos,af,g⟩:=by rfl)(hk:2<=q/1000:=by decide)
  (hw:Region.wanted ⟨dst,op,ty,pos,af,g⟩ (yielded ops (B6 n ρ).tmps)=false:=by first|exact DD rfl rfl rfl rfl|exact DE rfl rfl rfl rfl|exact BM rfl rfl rfl rfl):RS P f n R k ops S U (q::r) l ρ w:=⟨_,hi,false,undef,hw,.inr (.inr ⟨hk,fun e=>(by cases e),fun _=>h⟩)⟩
theorem jZ {c:Bool}{g:FuncId}{ol:List Operand}{ts:Array TypeId}{vals:List Value}{v:Value}{gd:Option (Nat×Bool)}(hc:c=true->Calls P g vals.toArray w (AN fun u w'=>u=v∧Ap w w'))
  (h:∀w',Ap w w'->LS U (l.setIfInBounds (q%1000) true) S w'∧RS P f n R k ops S U r (l.setIfInBounds (q%1000) true) (Bc ρ dst (gv c v)) w') [he:Ent P g]
  (hi:ops[q%1000]? =some ⟨dst,.call {callee:= .value (.func g),args:=ol.toArray,argTypes:=ts},ty,pos,af,gd⟩:=by rfl) (hk:2<=q/1000:=by decide)
  (hw:Region.wanted ⟨dst,.call {callee:= .value (.func g),args:=ol.toArray,argTypes:=ts},ty,pos,af,gd⟩ (yielded ops (B6 n ρ).tmps)=c:=by first|exact BL rfl rfl rfl rfl|exact BZ rfl rfl rfl rfl|exact CS rfl rfl rfl rfl|exact CT rfl rfl rfl rfl)
  (ha:c=true->ol.map (rd n ρ)=vals:=by intro hg;first|rfl|(repeat (first|exact Hw|refine CR (by first|rfl|exact BR hg|exact BR (Dc hg)) ?_))):RS P f n R k ops S U (q::r) l ρ w:=by
 refine⟨_,hi,c,v,hw,.inr (.inr ⟨hk,fun hc1=> ?_,fun hc0=> ?_⟩)⟩
 ·subst hc1;exact AA.call he.h (ha rfl) (hc rfl) fun u w' hu=>by rw[hu.1];exact h w' hu.2
 ·subst hc0;exact h w (Ad.refl _ w)
theorem gW (hx:X P n ρ ⟨dst,op,ty,pos,af,none⟩ w v w')(h:RL P f n R k ops rest (Bc ρ dst v) w'):RL P f n R k ops (⟨dst,op,ty,pos,af,none⟩::rest) ρ w:=RL.val hx h
theorem gX (hx:X P n ρ ⟨dst,op,ty,pos,af,none⟩ w v w)(h:RD P f n R k ops rest (Bc ρ dst v) w):RD P f n R k ops (⟨dst,op,ty,pos,af,none⟩::rest) ρ w:=⟨true,v,rfl,fun _=>hx,h⟩
theorem gY (hi:ops[q%1000]? =some ⟨dst,op,ty,pos,af,none⟩)(hk:q/1000=0)(hx:∀w,X P n ρ ⟨dst,op,ty,pos,af,none⟩ w v w)(h:RS P f n R k ops S U r (l.setIfInBounds (q%1000) true) (Bc ρ dst v) w):RS P f n R k ops S U (q::r) l ρ w:=⟨_,hi,true,v,rfl,.inl ⟨hk,fun _=>hx,h⟩⟩
theorem gZ (hi:ops[q%1000]? =some ⟨dst,op,ty,pos,af,none⟩)(hk:q/1000=1)(hx:∀w,S w->X P n ρ ⟨dst,op,ty,pos,af,none⟩ w v w)(h:RS P f n R k ops S U r (l.setIfInBounds (q%1000) true) (Bc ρ dst v) w):RS P f n R k ops S U (q::r) l ρ w:=⟨_,hi,true,v,rfl,.inr (.inl ⟨hk,fun _=>hx,h⟩)⟩
theorem g0 (hw:Region.wanted ⟨dst,op,ty,pos,af,g⟩ (yielded ops (B6 n ρ).tmps)=c)(hx:c=true->X P n ρ ⟨dst,op,ty,pos,af,none⟩ w v w)(h:RL P f n R k ops rest (Bc ρ dst (gv c v)) w):RL P f n R k ops (⟨dst,op,ty,pos,af,g⟩::rest) ρ w:=RL.gval hw hx h
theorem g5 (hw:Region.wanted ⟨dst,op,ty,pos,af,g⟩ (yielded ops (B6 n ρ).tmps)=c)(hx:c=true->X P n ρ ⟨dst,op,ty,pos,af,none⟩ w v w)(h:RD P f n R k ops rest (Bc ρ dst (gv c v)) w):RD P f n R k ops (⟨dst,op,ty,pos,af,g⟩::rest) ρ w:=⟨c,v,hw,hx,h⟩
theorem g6 (hi:ops[q%1000]? =some ⟨dst,op,ty,pos,af,g⟩)(hk:q/1000=0)(hw:Region.wanted ⟨dst,op,ty,pos,af,g⟩ (yielded ops (B6 n ρ).tmps)=c)(hx:∀w,c=true->X P n ρ ⟨dst,op,ty,pos,af,none⟩ w v w)(h:RS P f n R k ops S U r (l.setIfInBounds (q%1000) true) (Bc ρ dst (gv c v)) w):RS P f n R k ops S U (q::r) l ρ w:=⟨_,hi,c,v,hw,.inl ⟨hk,fun hc w=>hx w hc,h⟩⟩
theorem g7 (hi:ops[q%1000]? =some ⟨dst,op,ty,pos,af,g⟩)(hk:q/1000=1)(hw:Region.wanted ⟨dst,op,ty,pos,af,g⟩ (yielded ops (B6 n ρ).tmps)=c)(hx:∀w,S w->c=true->X P n ρ ⟨dst,op,ty,pos,af,none⟩ w v w)(h:RS P f n R k ops S U r (l.setIfInBounds (q%1000) true) (Bc ρ dst (gv c v)) w):RS P f n R k ops S U (q::r) l ρ w:=⟨_,hi,c,v,hw,.inr (.inl ⟨hk,fun hc w hS=>hx w hS hc,h⟩)⟩
theorem g8 (hi:ops[q%1000]? =some ⟨dst,op,ty,pos,af,g⟩)(hk:Nat.blt (q/1000) 2=true)(hw:Region.wanted ⟨dst,op,ty,pos,af,g⟩ (yielded ops (B6 n ρ).tmps)=false)(h:RS P f n R k ops S U r (l.setIfInBounds (q%1000) true) (Bc ρ dst undef) w):RS P f n R k ops S U (q::r) l ρ w:=ZL h hi hk hw
theorem g9 (hw:Region.wanted ⟨dst,op,ty,pos,af,g⟩ (yielded ops (B6 n ρ).tmps)=false)(h:RD P f n R k ops rest (Bc ρ dst undef) w):RD P f n R k ops (⟨dst,op,ty,pos,af,g⟩::rest) ρ w:=⟨false,undef,hw,fun e=>(by cases e),h⟩
theorem hY (hw:Region.wanted ⟨dst,op,ty,pos,af,g⟩ (yielded ops (B6 n ρ).tmps)=false)(h:RL P f n R k ops rest (Bc ρ dst undef) w):RL P f n R k ops (⟨dst,op,ty,pos,af,g⟩::rest) ρ w:=RL.guardF hw h
theorem hZ (hS:Cn U l=true∨S w)(h:RS P f n R k ops S U r l ρ w):LS U l S w∧RS P f n R k ops S U r l ρ w:=⟨hS,h⟩
structure Bx (B:Prop):Prop where
 h:B
theorem El {A B:Prop}(h:B)(hh:Bx B->A:=by
 intro hb_
 repeat first
 |apply RL.nil|apply Ai.seq|apply Ai.region|apply RS.nil|apply RD.nil|apply Ai.skip|apply Ai.inBlock|apply Ai.block|(apply Ai.exit;exact rfl)|apply Ai.label|(apply Ai.goto;exact rfl)|apply Ai.scope|apply Ai.inScope
 |(apply hZ;focus (first|(refine .inr ?_;(repeat (first|exact trivial|refine⟨by assumption,?_⟩));done)|exact .inl (by kernel_rfl)))
 exact hb_.h):A:=hh ⟨h⟩
theorem ii {A B:Prop}(h:B)(hh:Bx B->A:=by
 intro hb_
 first
 |(apply gW;exact XE)|(apply gY;exact rfl;exact rfl;(intro _;exact XE))|(apply gX;exact XE)
 |(apply gZ;exact rfl;exact rfl;((intro _ hS_;repeat (have:=hS_.1;replace hS_:=hS_.2));exact XE))
 |(apply g8;exact rfl;exact rfl;(first|exact DD rfl rfl rfl rfl|exact DE rfl rfl rfl rfl|exact BM rfl rfl rfl rfl))|(apply hY;(first|exact DD rfl rfl rfl rfl|exact DE rfl rfl rfl rfl|exact BM rfl rfl rfl rfl))|(apply g9;(first|exact DD rfl rfl rfl rfl|exact DE rfl rfl rfl rfl|exact BM rfl rfl rfl rfl))
 |(apply g6;exact rfl;exact rfl;(first|exact BL rfl rfl rfl rfl|exact BZ rfl rfl rfl rfl|exact CS rfl rfl rfl rfl|exact CT rfl rfl rfl rfl);(intro _;exact XF))|(apply g0;(first|exact BL rfl rfl rfl rfl|exact BZ rfl rfl rfl rfl|exact CS rfl rfl rfl rfl|exact CT rfl rfl rfl rfl);exact XF)|(apply g5;(first|exact BL rfl rfl rfl rfl|exact BZ rfl rfl rfl rfl|exact CS rfl rfl rfl rfl|exact CT rfl rfl rfl rfl);exact XF)
 |(apply g7;exact rfl;exact rfl;(first|exact BL rfl rfl rfl rfl|exact BZ rfl rfl rfl rfl|exact CS rfl rfl rfl rfl|exact CT rfl rfl rfl rfl);((intro _ hS_;repeat (have:=hS_.1;replace hS_:=hS_.2));exact XF))
 exact hb_.h):A:=hh ⟨h⟩
theorem jG {A B:Prop}(h:B)(hh:Bx B->A:=by
 intro hb_
 repeat first
 |(apply gW;exact XE)|apply RL.nil|apply Ai.seq|apply Ai.region|apply RS.nil|apply RD.nil|apply Ai.skip|apply Ai.inBlock|apply Ai.block|(apply Ai.exit;exact rfl)|apply Ai.label|(apply Ai.goto;exact rfl)|apply Ai.scope|apply Ai.inScope
 |(apply hZ;focus (first|(refine .inr ?_;(repeat (first|exact trivial|refine⟨by assumption,?_⟩));done)|exact .inl (by kernel_rfl)))
 |(apply gY;exact rfl;exact rfl;(intro _;exact XE))|(apply gX;exact XE)
 |(apply gZ;exact rfl;exact rfl;((intro _ hS_;repeat (have:=hS_.1;replace hS_:=hS_.2));exact XE))
 |(apply g8;exact rfl;exact rfl;(first|exact DD rfl rfl rfl rfl|exact DE rfl rfl rfl rfl|exact BM rfl rfl rfl rfl))|(apply hY;(first|exact DD rfl rfl rfl rfl|exact DE rfl rfl rfl rfl|exact BM rfl rfl rfl rfl))|(apply g9;(first|exact DD rfl rfl rfl rfl|exact DE rfl rfl rfl rfl|exact BM rfl rfl rfl rfl))
 |(apply g6;exact rfl;exact rfl;(first|exact BL rfl rfl rfl rfl|exact BZ rfl rfl rfl rfl|exact CS rfl rfl rfl rfl|exact CT rfl rfl rfl rfl);(intro _;exact XF))|(apply g0;(first|exact BL rfl rfl rfl rfl|exact BZ rfl rfl rfl rfl|exact CS rfl rfl rfl rfl|exact CT rfl rfl rfl rfl);exact XF)|(apply g5;(first|exact BL rfl rfl rfl rfl|exact BZ rfl rfl rfl rfl|exact CS rfl rfl rfl rfl|exact CT rfl rfl rfl rfl);exact XF)
 |(apply g7;exact rfl;exact rfl;(first|exact BL rfl rfl rfl rfl|exact BZ rfl rfl rfl rfl|exact CS rfl rfl rfl rfl|exact CT rfl rfl rfl rfl);((intro _ hS_;repeat (have:=hS_.1;replace hS_:=hS_.2));exact XF))
 exact hb_.h):A:=hh ⟨h⟩
theorem FW {A B:Prop}(h:B)(hh:Bx B->A:=by(intro hb_;refine El ?_;refine ii ?_;refine El ?_;exact hb_.h)):A:=hh ⟨h⟩
theorem Em {A B:Prop}(h:B)(hh:Bx B->A:=by(intro hb_;refine FW ?_;refine FW ?_;exact hb_.h)):A:=hh ⟨h⟩
theorem H7 {A B:Prop}(h:B)(hh:Bx B->A:=by(intro hb_;refine Em ?_;refine Em ?_;exact hb_.h)):A:=hh ⟨h⟩
theorem ij {A B:Prop}(h:B)(hh:Bx B->A:=by(intro hb_;refine H7 ?_;refine H7 ?_;exact hb_.h)):A:=hh ⟨h⟩
variable {K :A8->World->Prop}
theorem jR (h:AA P f n R k ⟨dst,op,ty,pos,af,none⟩ ρ w (RL P f n R k ops rest)):RL P f n R k ops (⟨dst,op,ty,pos,af,none⟩::rest) ρ w:=RL.st rfl h
theorem jT (h:AA P f n R k ⟨dst,op,ty,pos,af,none⟩ ρ w (RL P f n R k ops rest))(hw:Region.wanted ⟨dst,op,ty,pos,af,g⟩ (yielded ops (B6 n ρ).tmps)=true:=by first|exact Ny rfl rfl rfl rfl|exact Nz rfl rfl rfl rfl):RL P f n R k ops (⟨dst,op,ty,pos,af,g⟩::rest) ρ w:=RL.gst hw h
theorem jO (hx:X P n ρ ⟨dst,op,ty,pos,af,none⟩ w v w')(h:K (Bc ρ dst v) w'):AA P f n R k ⟨dst,op,ty,pos,af,none⟩ ρ w K:=AA.val hx h
theorem ZM {x:Value}(h:v=x:=by first|exact(rfl:_=Value.int _ _)|exact(rfl:_=Value.pointer _)|exact(rfl:_=Value.slice _ _ _)|exact(rfl:_=Value.bool _)|exact(rfl:_=Value.string _)|exact(rfl:_=Value.agg _)|exact(rfl:_=Value.iface _ _)|exact(rfl:_=Value.map _)|exact(rfl:_=Value.func _ _ _)|rfl):v=x:=h
theorem gC {l cs:List Value}(h:l=cs:=by first|exact(rfl:_=_::_)|rfl):l=cs:=h
theorem jB {e:TypeId}{x:Operand}{v:Value}{cs:List Value}(h:∀b w',w.heap.size<=b->AB w' b cs e->Ap w w'->K (Bc ρ dst (.pointer (some ⟨b,0,none⟩))) w')(hx:rd n ρ x=v:=by exact ZM)(hc:v.cells.toList=cs:=by exact gC):
  AA P f n R k ⟨dst,.box e x,ty,pos,af,none⟩ ρ w K:=by subst hc;exact AA.box hx h
theorem jA {e:TypeId}{size bytes:Nat}{z:Value}{agg:Bool}{cs:List Value}[he:Ty P e size bytes z agg](h:∀b w',w.heap.size<=b->AB w' b cs e->Ap w w'->K (Bc ρ dst (.pointer (some ⟨b,0,none⟩))) w')(hc:z.cells.toList=cs:=by exact gC):
  AA P f n R k ⟨dst,.alloc e,ty,pos,af,none⟩ ρ w K:=by subst hc;exact AA.alloc he h
theorem jS {t:TypeId}{x y:Operand}{b o size bytes:Nat}{z v:Value}{agg:Bool}{c vs c':List Value}{T:TypeId}(hb:AB w b c T)(h:∀w',AB w' b c' T->Ad (one b) w w'->K ρ w')(hx:rd n ρ x= .pointer (some ⟨b,o,none⟩):=by rfl)[he:Ty P t size bytes z agg]
  (hy:rd n ρ y=v:=by exact ZM) (hv:v.cells.toList=vs:=by exact gC) (hs:vs.length=size:=by rfl) (h1:vs.all (fun u=>u.oneCell')=true:=by rfl)
  (hfit:Nat.ble (o+size) c.length=true:=by rfl) (hc:c.take o++vs++c.drop (o+size)=c':=by first|(simp only[Abi,AaE,AbP,List.drop_zero,List.drop_nil,Abm,Aaz,Aaw,Nat.reduceAdd,Aaq];exact(rfl:_=_::_))|exact rfl):
  AA P f n R k ⟨none,.store t x y,ty,pos,af,none⟩ ρ w K:=by
 subst hv hc
 exact AA.store he hx hy (by simpa using hs) (fun u hu=>List.all_eq_true.1 h1 u hu) hb (AbM hfit) h
theorem jC {g:FuncId}{ol:List Operand}{ts:Array TypeId}{vals:List Value}{Φ:Value->World->Prop}(hc:Calls P g vals.toArray w (AN Φ))(h:∀v w',Φ v w'->K (Bc ρ dst v) w')[he:Ent P g](ha:ol.map (rd n ρ)=vals:=by rfl):
  AA P f n R k ⟨dst,.call {callee:= .value (.func g),args:=ol.toArray,argTypes:=ts},ty,pos,af,none⟩ ρ w K:=AA.call he.h ha hc h
end
section
variable {P :Program}{f:FuncId}{R:Ending->World->Prop}{k:List Item}{ρ:A8}{w:World}{m:Nat}
theorem jJ {fn:Func}{t:Nat}{v:Value}(hf:P.funcs[f]? =some fn)(h:R (.returned v) w)(hr:fn.results=#[.tmp t]:=by rfl)(hv:rd ⟨m,[]⟩ ρ (.tmp t)=v:=by exact ZM):Ai P f ⟨m,[]⟩ R (.code .ret::k) ρ w:=Ai.ret1 hf hr hv h
theorem jK {fn:Func}{t u:Nat}{v x:Value}(hf:P.funcs[f]? =some fn)(h:R (.returned (.tuple #[v,x])) w)(hr:fn.results=#[.tmp t,.tmp u]:=by rfl)(hv:rd ⟨m,[]⟩ ρ (.tmp t)=v:=by exact ZM)(hx:rd ⟨m,[]⟩ ρ (.tmp u)=x:=by exact ZM):Ai P f ⟨m,[]⟩ R (.code .ret::k) ρ w:=Ai.ret2 hf hr hv hx h
theorem Aa {F:Nat->Prop}{b:Nat}(h:¬F b):∀q,F q->¬one b q:=fun q hq e=>h (by rw[<-show q=b from e];exact hq)
theorem Bd {F:Nat->Prop}{a b:Nat}(h:a<=b)(g:∀q,F q->b<=q):∀q,F q->a<=q:=fun q hq=>Aaa h (g q hq)
theorem Hx {F S:Nat->Prop}{a b:Nat}(h:a<=b)(g:∀q,F q->b<=q):∀q,F q->q<a->S q:=fun q hq hl=>absurd (Aaa h (g q hq)) (by omega)
theorem Ak {a b c:Nat}(h:a<b)(g:b<=c):a<c:=Aa4 h g
theorem An {F:Nat->Prop}{N b:Nat}(h:∀q,F q->q<N)(hl:N<=b):¬F b:=fun h2=>absurd (h b h2) (by omega)
end
section
variable {P :Program}{f:FuncId}{n:FN}{R:Ending->World->Prop}{k:List Item}{ρ:A8}{w w':World}{S:Nat->Prop}{a b c:World}
theorem jF {x:Operand}{y z:Code}{A B:Prop}(h1:A)(h2:B)(hh:Bx A->Bx B->Ai P f n R (.code (.cond x y z)::k) ρ w:=by
 intro ha_ hb_
 refine Ai.cond rfl (fun hc_=> ?_) (fun hc_=> ?_)
 focus
  try simp only[br]at hc_
  revert hc_
  exact ha_.h
 focus
  try simp only[br]at hc_
  revert hc_
  exact hb_.h):Ai P f n R (.code (.cond x y z)::k) ρ w:=hh ⟨h1⟩ ⟨h2⟩
theorem C4 {x:Operand}{y z:Code}(h:Ai P f n R (.code y::k) ρ w)(hx:rd n ρ x= .bool true:=by rfl):Ai P f n R (.code (.cond x y z)::k) ρ w:=Ai.condT hx h
theorem Av.eo {α:Type}[Enc α]{a:Option Addr}{xs:List α}(h:Av w a xs)(i:Nat)(hi:i<xs.length:=by first|omega|(simp only[Aa3];omega)):∃b o x,xs[i]? =some x∧a=some ⟨b,o,none⟩∧Cl w b (o+i*Enc.size α) (cellsOf x):=h.el hi
theorem Ad.n1 {d:Nat}(h:Ad S a b)(k:Ad (one d) b c)(hd:a.heap.size<=d:=by omega):Ad S a c:=h.new k fun x hx=>by rw[show x=d from hx];exact hd
theorem Ad.tf {d:Nat}(h:Ad S a b)(k:Ad (one d) b c)(hd:S d):Ad S a c:=h.trans k fun x _ hx=>by rw[show x=d from hx];exact hd
theorem AB.kp {b d:Nat}{c:List Value}{T:TypeId}(h:AB w b c T)(k:Ad (one d) w w')(hd:¬one d b:=by simp only[one];omega):AB w' b c T:=h.keep k hd
theorem Cl.kp {b d o:Nat}{c:List Value}(h:Cl w b o c)(k:Ad (one d) w w')(hd:¬one d b:=by simp only[one];omega):Cl w' b o c:=h.keep k hd
abbrev jp (b:Nat):Value:= .pointer (some ⟨b,0,none⟩)
end
end Go.Proofs.YtjkaicjmfgekjaaGreatDoor
