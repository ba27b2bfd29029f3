/-
  Base
-/
import Derived.Calls
import Derived.Tactics
import Derived.Orders
import Derived.OrdersHeld
import Derived.Laws.AppendOwn
import Derived.Below
import Derived.KernelRfl
set_option linter.all false
namespace Go.Proofs.YtjkaicjmfgekjaaGreatDoor
abbrev AV :=Nat→Value
def upd (ρ:AV)(t:Nat)(v:Value):AV:=fun s=>bif Nat.beq s t then v else ρ s
def A4 (ρ:AV):Option Nat→Value→AV
 |some t,v=>upd ρ t v
 |none,_=>ρ
structure FN where
 n:Nat
 ds:List Deferred
def BN (n:FN)(ρ:AV):Act:=⟨Array.ofFn (n:=n.n) fun i=>ρ i,n.ds⟩
def rd (n:FN)(ρ:AV):Operand→Value
 | .tmp t=>bif Nat.blt t n.n then ρ t else undef
 | .const v=>v
 | .global g=> .pointer (some ⟨g,0,none⟩)
 | .func f=> .func (.func f) #[] #[]
def NZ (args:Array Value):AV:=fun t=>(args.toList[t]?).getD undef
theorem Ut (t n:Nat):Nat.blt t n=decide (t<n):=by
 by_cases h:t<n
 ·simp only[h,decide_true];exact Nat.ble_eq_true_of_le h
 ·simp only[h,decide_false]
  cases hb:Nat.blt t n with
  |false=>rfl
  |true=>exact absurd (Nat.le_of_ble_eq_true hb) h
theorem Qi (s t:Nat):Nat.beq s t=decide (s=t):=by
 by_cases h:s=t
 ·subst h;simp
 ·simp only[h,decide_false]
  cases hb:Nat.beq s t with
  |false=>rfl
  |true=>exact absurd (Nat.eq_of_beq_eq_true hb) h
theorem Bk (n : FN) (ρ : AV) : (BN n ρ).eval = rd n ρ := by
  funext x
  cases x with
  | tmp t =>
    simp only [Act.eval, BN, rd, Ut]
    by_cases h : t < n.n <;> simp [h]
  | _ => rfl
theorem BG (n : FN) (ρ : AV) (d : Option Nat) (v : Value) : (BN n ρ).put d v = BN n (A4 ρ d v) := by
  cases d with
  | none => rfl
  | some d =>
    simp only [Act.put, BN, A4]
    congr 1
    apply Array.ext
    · simp
    · intro i h1 h2
      have hi : i < (Array.ofFn (n := n.n) fun i => ρ i).size := by simpa using h1
      rw [Array.getElem_setIfInBounds hi]
      simp only [Array.getElem_ofFn, upd, Qi]
      by_cases h : d = i
      · subst h; simp
      · have h' : ¬ i = d := fun e => h e.symm
        simp [h, h']
theorem Qj (n:Nat)(args:Array Value)(h:args.size≤n):args++Array.replicate (n-args.size) undef=Array.ofFn (n:=n) fun i=>NZ args i:=by
 apply Array.ext
 ·simp;omega
 ·intro i h1 h2
  simp only[Array.getElem_ofFn,NZ]
  rw[Array.getElem_append]
  split
  ·rename_i hi;simp[hi]
  ·rename_i hi
   simp only[Array.getElem_replicate]
   rw[List.getElem?_eq_none (by simpa using hi)]
   rfl
theorem Qk (ρ:AV)(t:Nat):upd ρ t (ρ t)=ρ:=by
 funext s
 simp only[upd,Qi]
 by_cases h:s=t
 ·subst h;simp
 ·simp[h]
def bf (f:FuncId):Frame:={(default:Frame)with fn:=f,kind:= .normal}
def Aj (P:Program)(f:FuncId)(n:FN)(R:Ending→World→Prop)(k:List Item)(ρ:AV)(w:World):Prop:=
 ∀cs,∃e w' fr,R e w'∧Comes P (lone ((bf f).at (BN n ρ) k) cs w) (lone fr cs w') e∧fr.fn=f∧fr.leaving P w' e
def H6 (P:Program)(f:FuncId)(n:FN)(R:Ending→World→Prop)(k:List Item):Exit→Act→World→Prop
 | .normal,a,w=>∃ds ρ,a=BN ⟨n.n,ds⟩ ρ∧Aj P f ⟨n.n,ds⟩ R k ρ w
 | .panic ch,a,w=>a.defers=[]∧(∃fn,P.funcs[f]? =some fn)∧R (.panicked ch) w
 | .outgrown,_,w=>R .outgrown w
 |_,_,_=>False
section
variable {P :Program}{f:FuncId}{n:FN}{m:Nat}{R:Ending→World→Prop}{k:List Item}{ρ:AV}{w:World}
theorem Aj.step {k':List Item}{ρ':AV}{w':World}
  (hs:∀cs,step P (lone ((bf f).at (BN n ρ) k) cs w)= .next (lone ((bf f).at (BN n ρ') k') cs w'))
  (h:Aj P f n R k' ρ' w'):Aj P f n R k ρ w:=fun cs=>
 let ⟨e,w'',fr,hR,hc,hf,hl⟩:=h cs
 ⟨e,w'',fr,hR,Comes.of_steps (.one (hs cs)) hc,hf,hl⟩
theorem Aj.skip (h:Aj P f n R k ρ w):Aj P f n R (.code .skip::k) ρ w:=h.step fun _=>step_skip
theorem Aj.label {l:Nat}(h:Aj P f n R k ρ w):Aj P f n R (.code (.label l)::k) ρ w:=h.step fun _=>step_label
theorem Aj.inBlock {id:Nat}(h:Aj P f n R k ρ w):Aj P f n R (.inBlock id::k) ρ w:=h.step fun _=>step_inBlock
theorem Aj.seq {a b:Code}(h:Aj P f n R (.code a:: .code b::k) ρ w):Aj P f n R (.code (.seq a b)::k) ρ w:=h.step fun _=>step_seq
theorem Aj.block {id:Nat}{c:Code}(h:Aj P f n R (.code c:: .inBlock id::k) ρ w):Aj P f n R (.code (.block id c)::k) ρ w:=h.step fun _=>step_block
theorem Aj.exit {id:Nat}{k':List Item}(hk:exitTo id k=some k')(h:Aj P f n R k' ρ w):Aj P f n R (.code (.exit id)::k) ρ w:=h.step fun _=>step_exit hk
theorem Aj.goto {l:Nat}{k':List Item}(hk:gotoIn l k=some k')(h:Aj P f n R k' ρ w):Aj P f n R (.code (.goto l)::k) ρ w:=h.step fun _=>step_goto hk
theorem Aj.inLoop {c:Code}(h:Aj P f n R (.code c:: .inLoop c::k) ρ w):Aj P f n R (.inLoop c::k) ρ w:=h.step fun _=>step_inLoop
theorem Aj.cond {c:Operand}{x y:Code}{t:Bool}(hc:rd n ρ c= .bool t)(h1:t=true→Aj P f n R (.code x::k) ρ w)
  (h2:t=false→Aj P f n R (.code y::k) ρ w):Aj P f n R (.code (.cond c x y)::k) ρ w:=by
 have hc':(BN n ρ).eval c= .bool t:=by rw[Bk];exact hc
 cases t with
 |true=>exact(h1 rfl).step fun _=>step_cond hc'
 |false=>exact(h2 rfl).step fun _=>step_cond hc'
theorem Aj.condT {c:Operand}{x y:Code}(hc:rd n ρ c= .bool true)(h:Aj P f n R (.code x::k) ρ w):Aj P f n R (.code (.cond c x y)::k) ρ w:=
 Aj.cond hc (fun _=>h) (fun e=>by cases e)
theorem Aj.condF {c:Operand}{x y:Code}(hc:rd n ρ c= .bool false)(h:Aj P f n R (.code y::k) ρ w):Aj P f n R (.code (.cond c x y)::k) ρ w:=
 Aj.cond hc (fun e=>by cases e) (fun _=>h)
theorem Aj.loop {c : Code} {ι : Type} (I : ι → AV → World → Prop) (μ : ι → Nat) (i₀ : ι) (h₀ : I i₀ ρ w)
    (round : ∀ i ρ w, I i ρ w → (∀ i' ρ' w', I i' ρ' w' → μ i' < μ i → Aj P f n R (.inLoop c :: k) ρ' w') → Aj P f n R (.code c :: .inLoop c :: k) ρ w) :
    Aj P f n R (.code (.loop c) :: k) ρ w := by
  have key : ∀ m i ρ w, μ i = m → I i ρ w → Aj P f n R (.code c :: .inLoop c :: k) ρ w := by
    intro m
    induction m using Nat.strongRecOn with
    | _ m ih =>
      intro i ρ w hm hI
      exact round i ρ w hI fun i' ρ' w' hI' hlt => Aj.inLoop (ih (μ i') (hm ▸ hlt) i' ρ' w' rfl hI')
  exact (key _ i₀ ρ w rfl h₀).step fun _ => step_loop
theorem Aj.ret {fn:Func}{v:Value}(hf:P.funcs[f]? =some fn)(hr:(results fn (BN ⟨m,[]⟩ ρ).tmps).run P w= .ok v w)(h:R (.returned v) w):
  Aj P f ⟨m,[]⟩ R (.code .ret::k) ρ w:=fun _=>
 ⟨.returned v,w,_,h,Steps.one step_ret,rfl,rfl,rfl,rfl,fn,hf,hr⟩
theorem Aj.fin {fn:Func}{v:Value}(hf:P.funcs[f]? =some fn)(hr:(results fn (BN ⟨m,[]⟩ ρ).tmps).run P w= .ok v w)(h:R (.returned v) w):
  Aj P f ⟨m,[]⟩ R [] ρ w:=fun _=>
 ⟨.returned v,w,_,h,Steps.one step_end,rfl,rfl,rfl,rfl,fn,hf,hr⟩
theorem BH (t:Nat):(BN n ρ).tmps.getD t undef=rd n ρ (.tmp t):=by
 have:=congrFun (Bk n ρ) (.tmp t)
 simpa[Act.eval]using this
theorem Ql {fn:Func}(h:fn.results=#[]):(results fn (BN n ρ).tmps).run P w= .ok (.tuple #[]) w:=results_none h _ _ _
theorem Ix {fn:Func}{t:Nat}{v:Value}(h:fn.results=#[.tmp t])(hv:rd n ρ (.tmp t)=v):(results fn (BN n ρ).tmps).run P w= .ok v w:=by
 rw[results_tmp h,BH,hv]
theorem Qm {fn:Func}{t u:Nat}{v x:Value}(h:fn.results=#[.tmp t,.tmp u])(hv:rd n ρ (.tmp t)=v)(hx:rd n ρ (.tmp u)=x):
  (results fn (BN n ρ).tmps).run P w= .ok (.tuple #[v,x]) w:=by
 rw[results_tmp2 h,BH,BH,hv,hx]
theorem Qn {fn:Func}{t u s:Nat}{v x y:Value}(h:fn.results=#[.tmp t,.tmp u,.tmp s])(hv:rd n ρ (.tmp t)=v)(hx:rd n ρ (.tmp u)=x)(hy:rd n ρ (.tmp s)=y):
  (results fn (BN n ρ).tmps).run P w= .ok (.tuple #[v,x,y]) w:=by
 rw[←hv,←hx,←hy,←BH,←BH,←BH]
 simp[results,h]
theorem Aj.fin0 {fn:Func}(hf:P.funcs[f]? =some fn)(hr:fn.results=#[])(h:R (.returned (.tuple #[])) w):Aj P f ⟨m,[]⟩ R [] ρ w:=Aj.fin hf (Ql hr) h
theorem Aj.ret1 {fn:Func}{t:Nat}{v:Value}(hf:P.funcs[f]? =some fn)(hr:fn.results=#[.tmp t])(hv:rd ⟨m,[]⟩ ρ (.tmp t)=v)(h:R (.returned v) w):
  Aj P f ⟨m,[]⟩ R (.code .ret::k) ρ w:=Aj.ret hf (Ix hr hv) h
theorem Aj.ret2 {fn:Func}{t u:Nat}{v x:Value}(hf:P.funcs[f]? =some fn)(hr:fn.results=#[.tmp t,.tmp u])(hv:rd ⟨m,[]⟩ ρ (.tmp t)=v)(hx:rd ⟨m,[]⟩ ρ (.tmp u)=x)
  (h:R (.returned (.tuple #[v,x])) w):Aj P f ⟨m,[]⟩ R (.code .ret::k) ρ w:=Aj.ret hf (Qm hr hv hx) h
theorem Aj.ret3 {fn:Func}{t u s:Nat}{v x y:Value}(hf:P.funcs[f]? =some fn)(hr:fn.results=#[.tmp t,.tmp u,.tmp s])(hv:rd ⟨m,[]⟩ ρ (.tmp t)=v)(hx:rd ⟨m,[]⟩ ρ (.tmp u)=x)
  (hy:rd ⟨m,[]⟩ ρ (.tmp s)=y) (h:R (.returned (.tuple #[v,x,y])) w):Aj P f ⟨m,[]⟩ R (.code .ret::k) ρ w:=Aj.ret hf (Qn hr hv hx hy) h
theorem Aj.of_wp {c : Code} (h : c.wp P (H6 P f n R k) (BN n ρ) w) : Aj P f n R (.code c :: k) ρ w := by
  intro cs
  obtain ⟨e, a', w', hq, harr⟩ := h (bf f) k cs
  cases e with
  | normal =>
    obtain ⟨ds, ρ', rfl, hrun⟩ := hq
    obtain ⟨e, w'', fr, hR, hc, hf, hl⟩ := hrun cs
    exact ⟨e, w'', fr, hR, Comes.of_steps harr hc, hf, hl⟩
  | exit id => exact hq.elim
  | goto l => exact hq.elim
  | ret => exact hq.elim
  | panic ch =>
    obtain ⟨hd, ⟨fn, hfn⟩, hR⟩ := hq
    obtain ⟨todo, hs⟩ := harr
    exact ⟨.panicked ch, w', _, hR, hs, rfl, rfl, hd, fn, hfn⟩
  | outgrown =>
    exact ⟨.outgrown, w', bf f, hq, harr.resolve_left (by simp [bf]), rfl, trivial⟩
end
theorem Ae {P:Program}{f:FuncId}{fn:Func}{c:Code}{n:Nat}{args:Array Value}{w:World}{R:Ending→World→Prop}
  (hf:P.funcs[f]? =some fn) (hb:fn.body=some c) (hn:fn.ntmps=n) (ha:Nat.ble args.size n=true) (h:Aj P f ⟨n,[]⟩ R [.code c] (NZ args) w):Calls P f args w R:=by
 intro cs
 have henter:Frame.enter P f args .normal=(bf f).at (BN ⟨n,[]⟩ (NZ args)) [.code c]:=by
  have ha':args.size≤n:=Nat.le_of_ble_eq_true ha
  simp only[Frame.enter,Frame.at,hf,hb,bf,BN,Option.map_some,Option.getD_some,hn,Option.bind_some]
  rw[Qj n args ha']
 rw[henter]
 exact h cs
def RL (P:Program)(f:FuncId)(n:FN)(R:Ending→World→Prop)(k:List Item)(ops:Array Oper)(l:List Oper)(ρ:AV)(w:World):Prop:=
 wpList P ops (H6 P f n R k) l (BN n ρ) w
def AS (Φ:Value→World→Prop):Ending→World→Prop:=fun e w=>∃v,e= .returned v∧Φ v w
def Fh (P:Program)(g:FuncId):Prop:=∀(args:Array Value) (w:World),(callFunc g args).run P w= .ok (.enter g args) w
theorem Ec {P:Program}{g:FuncId}{fn:Func}{c:Code}(hf:P.funcs[g]? =some fn)(hb:fn.body=some c)(hn:(fn.name== "runtime.NumGoroutine")=false):Fh P g:=by
 intro args w
 simp only[callFunc,program,Sem.run_bind,Sem.run,Result.andThen_ok,hf,hn,hb]
 rfl
section
variable {P :Program}{f:FuncId}{n:FN}{m:Nat}{R:Ending→World→Prop}{k:List Item}{ops:Array Oper}{rest:List Oper}{ρ:AV}{w:World}
variable {dst :Option Nat}{op:Op}{ty:TypeId}{pos:String}{af:Array Edge}
theorem Aj.region {id:Nat}{l:List Oper}(h:RL P f n R k l.toArray l ρ w):Aj P f n R (.code (.region id l.toArray false)::k) ρ w:=
 Aj.of_wp (wp_region_lit h)
theorem RL.nil (h:Aj P f n R k ρ w):RL P f n R k ops [] ρ w:=⟨n.ds,ρ,rfl,h⟩
def Av (P:Program)(f:FuncId)(n:FN)(R:Ending→World→Prop)(k:List Item)(o:Oper)(ρ:AV)(w:World)(K:AV→World→Prop):Prop:=
 o.wp P (BN n ρ) w (fun a' w'=>∃ρ',a'=BN n ρ'∧K ρ' w') (H6 P f n R k)
theorem RL.st {o:Oper}(hg:o.guard=none)(h:Av P f n R k o ρ w (RL P f n R k ops rest)):RL P f n R k ops (o::rest) ρ w:=by
 refine wpList_plain hg fun K hK=> ?_
 refine Oper.wp_mono ?_ h
 rintro a' w' ⟨ρ',rfl,h'⟩
 exact hK _ _ h'
variable {K :AV→World→Prop}
theorem Av.val {v:Value}{w':World}(hrun:(execOp (rd n ρ) ⟨dst,op,ty,pos,af,none⟩).run P w= .ok (.value v) w')
  (h:K (A4 ρ dst v) w'):Av P f n R k ⟨dst,op,ty,pos,af,none⟩ ρ w K:=by
 simp only[Av,Oper.wp,Bk,hrun,Oper.upon,BG]
 exact⟨_,rfl,h⟩
theorem Av.skip {w':World}(hrun:(execOp (rd n ρ) ⟨none,op,ty,pos,af,none⟩).run P w= .ok .skip w')
  (h:K ρ w'):Av P f n R k ⟨none,op,ty,pos,af,none⟩ ρ w K:=by
 simp only[Av,Oper.wp,Bk,hrun,Oper.upon,BG]
 exact⟨_,rfl,h⟩
theorem Av.enter {g:FuncId}{vals:Array Value}{Φ:Value→World→Prop}(hrun:(execOp (rd n ρ) ⟨dst,op,ty,pos,af,none⟩).run P w= .ok (.enter g vals) w)
  (hc:Calls P g vals w (AS Φ)) (h:∀v w',Φ v w'→K (A4 ρ dst v) w'):Av P f n R k ⟨dst,op,ty,pos,af,none⟩ ρ w K:=by
 simp only[Av,Oper.wp,Bk,hrun,Oper.upon]
 refine hc.mono ?_
 rintro e w' ⟨v,rfl,hΦ⟩
 simp only[BG]
 exact⟨_,rfl,h v w' hΦ⟩
theorem RL.val {v:Value}{w':World}(hrun:(execOp (rd n ρ) ⟨dst,op,ty,pos,af,none⟩).run P w= .ok (.value v) w')
  (h:RL P f n R k ops rest (A4 ρ dst v) w'):RL P f n R k ops (⟨dst,op,ty,pos,af,none⟩::rest) ρ w:=RL.st rfl (Av.val hrun h)
theorem RL.guardT {o:Oper}(hw:Region.wanted o (yielded ops (BN n ρ).tmps)=true)(h:RL P f n R k ops ({o with guard:=none}::rest) ρ w):RL P f n R k ops (o::rest) ρ w:=by
 unfold RL wpList at*
 rw[if_pos hw]
 have h2:Region.wanted {o with guard:=none} (yielded ops (BN n ρ).tmps)=true:=rfl
 rw[if_pos h2]at h
 exact h
theorem RL.guardF {o:Oper}(hw:Region.wanted o (yielded ops (BN n ρ).tmps)=false)(h:RL P f n R k ops rest (A4 ρ o.dst undef) w):RL P f n R k ops (o::rest) ρ w:=by
 unfold RL at*
 unfold wpList
 rw[if_neg (by simp[hw]),BG]
 exact h
theorem JF {o:Oper}{j:Nat}{want b:Bool}{oj:Oper}{t:Nat}(hg:o.guard=some (j,want))(hj:ops[j]? =some oj)(hd:oj.dst=some t)(hb:rd n ρ (.tmp t)= .bool b):
  Region.wanted o (yielded ops (BN n ρ).tmps)=(b==want):=by
 have h1:(BN n ρ).tmps[t]? =some (.bool b):=by
  have h2:=BH (n:=n) (ρ:=ρ) t
  rw[hb]at h2
  cases h3:(BN n ρ).tmps[t]? with
  |none=>simp[Array.getD_eq_getD_getElem?,h3,undef]at h2
  |some v=>simp[Array.getD_eq_getD_getElem?,h3]at h2;rw[h2]
 simp only[Region.wanted,hg,yielded,hj,hd,Option.bind_some,h1]
 rfl
end
theorem Zf {A B:Nat→Prop}(h:∀q,A q→¬B q):∀q,B q→¬A q:=fun q x y=>h q y x
theorem Zo {p:Prop}(h:p:=by omega):p:=h
theorem Zk {p:Prop}(h:p:=by kernel_rfl):p:=h
theorem Zd {p:Prop}(h:p:=by decide):p:=h
theorem Zs {p:Prop}(h:p:=by simp):p:=h
theorem Za {p:Prop}(h:p:=by assumption):p:=h
theorem Zl {p:Prop}(h:p:=by first|omega|(simp only[List.length_set];omega)):p:=h
theorem Zr {p:Prop}(h:p:=by first|omega|(simp only[lr];omega)):p:=h
theorem Ze {p:Prop}(h:p:=by first|decide|(simp[Enc.size])):p:=h
theorem Zv {p:Prop}(h:p:=by simp[Value.cells,Value.oneCell']):p:=h
theorem Zn {p:Prop}(h:p:=by first|omega|(simp only[List.length_append,List.length_nil];omega)):p:=h
theorem Zt {p:Prop}(h:p:=by rw[List.length_take];omega):p:=h
theorem Zp {p:Prop}(h:p:=by simp only;omega):p:=h
theorem Zi {p:Prop}(h:p:=by simp;omega):p:=h
theorem Zh {p:Prop}(h:p:=by rw[List.length_drop];omega):p:=h
theorem Zq {p:Prop}(h:p:=by rw[Bool.eq_iff_iff];simp):p:=h
end Go.Proofs.YtjkaicjmfgekjaaGreatDoor
