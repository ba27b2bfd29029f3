/-
  Base
-/
import Derived.Calls
import Derived.Tactics
import Derived.Orders
import Derived.OrdersHeld
import Derived.Laws.AppendOwn
import Derived.Below
import Derived.KernelRfl
set_option linter.all false
namespace Go.Proofs.YtocgdeefgohdhaaGreat
abbrev Regs :=Nat→Value
def upd (ρ:Regs)(t:Nat)(v:Value):Regs:=fun s=>bif Nat.beq s t then v else ρ s
def updo (ρ:Regs):Option Nat→Value→Regs
 |some t,v=>upd ρ t v
 |none,_=>ρ
structure FN where
 n:Nat
 ds:List Deferred
def act (n:FN)(ρ:Regs):Act:=⟨Array.ofFn (n:=n.n) fun i=>ρ i,n.ds⟩
def rd (n:FN)(ρ:Regs):Operand→Value
 | .tmp t=>bif Nat.blt t n.n then ρ t else undef
 | .const v=>v
 | .global g=> .pointer (some ⟨g,0,none⟩)
 | .func f=> .func (.func f) #[] #[]
def args0 (args:Array Value):Regs:=fun t=>(args.toList[t]?).getD undef
theorem blt_eq (t n:Nat):Nat.blt t n=decide (t<n):=by
 by_cases h:t<n
 ·simp only[h,decide_true];exact Nat.ble_eq_true_of_le h
 ·simp only[h,decide_false]
  cases hb:Nat.blt t n with
  |false=>rfl
  |true=>exact absurd (Nat.le_of_ble_eq_true hb) h
theorem beq_eq (s t:Nat):Nat.beq s t=decide (s=t):=by
 by_cases h:s=t
 ·subst h;simp
 ·simp only[h,decide_false]
  cases hb:Nat.beq s t with
  |false=>rfl
  |true=>exact absurd (Nat.eq_of_beq_eq_true hb) h
theorem eval_act (n : FN) (ρ : Regs) : (act n ρ).eval = rd n ρ := by
  funext x
  cases x with
  | tmp t =>
    simp only [Act.eval, act, rd, blt_eq]
    by_cases h : t < n.n <;> simp [h]
  | _ => rfl
theorem put_act (n : FN) (ρ : Regs) (d : Option Nat) (v : Value) : (act n ρ).put d v = act n (updo ρ d v) := by
  cases d with
  | none => rfl
  | some d =>
    simp only [Act.put, act, updo]
    congr 1
    apply Array.ext
    · simp
    · intro i h1 h2
      have hi : i < (Array.ofFn (n := n.n) fun i => ρ i).size := by simpa using h1
      rw [Array.getElem_setIfInBounds hi]
      simp only [Array.getElem_ofFn, upd, beq_eq]
      by_cases h : d = i
      · subst h; simp
      · have h' : ¬ i = d := fun e => h e.symm
        simp [h, h']
theorem act_args (n:Nat)(args:Array Value)(h:args.size≤n):args++Array.replicate (n-args.size) undef=Array.ofFn (n:=n) fun i=>args0 args i:=by
 apply Array.ext
 ·simp;omega
 ·intro i h1 h2
  simp only[Array.getElem_ofFn,args0]
  rw[Array.getElem_append]
  split
  ·rename_i hi;simp[hi]
  ·rename_i hi
   simp only[Array.getElem_replicate]
   rw[List.getElem?_eq_none (by simpa using hi)]
   rfl
theorem upd_same (ρ:Regs)(t:Nat):upd ρ t (ρ t)=ρ:=by
 funext s
 simp only[upd,beq_eq]
 by_cases h:s=t
 ·subst h;simp
 ·simp[h]
def bf (f:FuncId):Frame:={(default:Frame)with fn:=f,kind:= .normal}
def Run (P:Program)(f:FuncId)(n:FN)(R:Ending→World→Prop)(k:List Item)(ρ:Regs)(w:World):Prop:=
 ∀cs,∃e w' fr,R e w'∧Comes P (lone ((bf f).at (act n ρ) k) cs w) (lone fr cs w') e∧fr.fn=f∧fr.leaving P w' e
def Post (P:Program)(f:FuncId)(n:FN)(R:Ending→World→Prop)(k:List Item):Exit→Act→World→Prop
 | .normal,a,w=>∃ds ρ,a=act ⟨n.n,ds⟩ ρ∧Run P f ⟨n.n,ds⟩ R k ρ w
 | .panic ch,a,w=>a.defers=[]∧(∃fn,P.funcs[f]? =some fn)∧R (.panicked ch) w
 | .outgrown,_,w=>R .outgrown w
 |_,_,_=>False
section
variable {P :Program}{f:FuncId}{n:FN}{m:Nat}{R:Ending→World→Prop}{k:List Item}{ρ:Regs}{w:World}
theorem Run.step {k':List Item}{ρ':Regs}{w':World}
  (hs:∀cs,step P (lone ((bf f).at (act n ρ) k) cs w)= .next (lone ((bf f).at (act n ρ') k') cs w'))
  (h:Run P f n R k' ρ' w'):Run P f n R k ρ w:=fun cs=>
 let ⟨e,w'',fr,hR,hc,hf,hl⟩:=h cs
 ⟨e,w'',fr,hR,Comes.of_steps (.one (hs cs)) hc,hf,hl⟩
theorem Run.skip (h:Run P f n R k ρ w):Run P f n R (.code .skip::k) ρ w:=h.step fun _=>step_skip
theorem Run.label {l:Nat}(h:Run P f n R k ρ w):Run P f n R (.code (.label l)::k) ρ w:=h.step fun _=>step_label
theorem Run.inBlock {id:Nat}(h:Run P f n R k ρ w):Run P f n R (.inBlock id::k) ρ w:=h.step fun _=>step_inBlock
theorem Run.seq {a b:Code}(h:Run P f n R (.code a:: .code b::k) ρ w):Run P f n R (.code (.seq a b)::k) ρ w:=h.step fun _=>step_seq
theorem Run.block {id:Nat}{c:Code}(h:Run P f n R (.code c:: .inBlock id::k) ρ w):Run P f n R (.code (.block id c)::k) ρ w:=h.step fun _=>step_block
theorem Run.exit {id:Nat}{k':List Item}(hk:exitTo id k=some k')(h:Run P f n R k' ρ w):Run P f n R (.code (.exit id)::k) ρ w:=h.step fun _=>step_exit hk
theorem Run.goto {l:Nat}{k':List Item}(hk:gotoIn l k=some k')(h:Run P f n R k' ρ w):Run P f n R (.code (.goto l)::k) ρ w:=h.step fun _=>step_goto hk
theorem Run.inLoop {c:Code}(h:Run P f n R (.code c:: .inLoop c::k) ρ w):Run P f n R (.inLoop c::k) ρ w:=h.step fun _=>step_inLoop
theorem Run.cond {c:Operand}{x y:Code}{t:Bool}(hc:rd n ρ c= .bool t)(h1:t=true→Run P f n R (.code x::k) ρ w)
  (h2:t=false→Run P f n R (.code y::k) ρ w):Run P f n R (.code (.cond c x y)::k) ρ w:=by
 have hc':(act n ρ).eval c= .bool t:=by rw[eval_act];exact hc
 cases t with
 |true=>exact(h1 rfl).step fun _=>step_cond hc'
 |false=>exact(h2 rfl).step fun _=>step_cond hc'
theorem Run.condT {c:Operand}{x y:Code}(hc:rd n ρ c= .bool true)(h:Run P f n R (.code x::k) ρ w):Run P f n R (.code (.cond c x y)::k) ρ w:=
 Run.cond hc (fun _=>h) (fun e=>by cases e)
theorem Run.condF {c:Operand}{x y:Code}(hc:rd n ρ c= .bool false)(h:Run P f n R (.code y::k) ρ w):Run P f n R (.code (.cond c x y)::k) ρ w:=
 Run.cond hc (fun e=>by cases e) (fun _=>h)
theorem Run.loop {c : Code} {ι : Type} (I : ι → Regs → World → Prop) (μ : ι → Nat) (i₀ : ι) (h₀ : I i₀ ρ w)
    (round : ∀ i ρ w, I i ρ w → (∀ i' ρ' w', I i' ρ' w' → μ i' < μ i → Run P f n R (.inLoop c :: k) ρ' w') → Run P f n R (.code c :: .inLoop c :: k) ρ w) :
    Run P f n R (.code (.loop c) :: k) ρ w := by
  have key : ∀ m i ρ w, μ i = m → I i ρ w → Run P f n R (.code c :: .inLoop c :: k) ρ w := by
    intro m
    induction m using Nat.strongRecOn with
    | _ m ih =>
      intro i ρ w hm hI
      exact round i ρ w hI fun i' ρ' w' hI' hlt => Run.inLoop (ih (μ i') (hm ▸ hlt) i' ρ' w' rfl hI')
  exact (key _ i₀ ρ w rfl h₀).step fun _ => step_loop
theorem Run.ret {fn:Func}{v:Value}(hf:P.funcs[f]? =some fn)(hr:(results fn (act ⟨m,[]⟩ ρ).tmps).run P w= .ok v w)(h:R (.returned v) w):
  Run P f ⟨m,[]⟩ R (.code .ret::k) ρ w:=fun _=>
 ⟨.returned v,w,_,h,Steps.one step_ret,rfl,rfl,rfl,rfl,fn,hf,hr⟩
theorem Run.fin {fn:Func}{v:Value}(hf:P.funcs[f]? =some fn)(hr:(results fn (act ⟨m,[]⟩ ρ).tmps).run P w= .ok v w)(h:R (.returned v) w):
  Run P f ⟨m,[]⟩ R [] ρ w:=fun _=>
 ⟨.returned v,w,_,h,Steps.one step_end,rfl,rfl,rfl,rfl,fn,hf,hr⟩
theorem tmps_getD (t:Nat):(act n ρ).tmps.getD t undef=rd n ρ (.tmp t):=by
 have:=congrFun (eval_act n ρ) (.tmp t)
 simpa[Act.eval]using this
theorem results0 {fn:Func}(h:fn.results=#[]):(results fn (act n ρ).tmps).run P w= .ok (.tuple #[]) w:=results_none h _ _ _
theorem results1 {fn:Func}{t:Nat}{v:Value}(h:fn.results=#[.tmp t])(hv:rd n ρ (.tmp t)=v):(results fn (act n ρ).tmps).run P w= .ok v w:=by
 rw[results_tmp h,tmps_getD,hv]
theorem results2 {fn:Func}{t u:Nat}{v x:Value}(h:fn.results=#[.tmp t,.tmp u])(hv:rd n ρ (.tmp t)=v)(hx:rd n ρ (.tmp u)=x):
  (results fn (act n ρ).tmps).run P w= .ok (.tuple #[v,x]) w:=by
 rw[results_tmp2 h,tmps_getD,tmps_getD,hv,hx]
theorem results3 {fn:Func}{t u s:Nat}{v x y:Value}(h:fn.results=#[.tmp t,.tmp u,.tmp s])(hv:rd n ρ (.tmp t)=v)(hx:rd n ρ (.tmp u)=x)(hy:rd n ρ (.tmp s)=y):
  (results fn (act n ρ).tmps).run P w= .ok (.tuple #[v,x,y]) w:=by
 rw[←hv,←hx,←hy,←tmps_getD,←tmps_getD,←tmps_getD]
 simp[results,h]
theorem Run.fin0 {fn:Func}(hf:P.funcs[f]? =some fn)(hr:fn.results=#[])(h:R (.returned (.tuple #[])) w):Run P f ⟨m,[]⟩ R [] ρ w:=Run.fin hf (results0 hr) h
theorem Run.ret1 {fn:Func}{t:Nat}{v:Value}(hf:P.funcs[f]? =some fn)(hr:fn.results=#[.tmp t])(hv:rd ⟨m,[]⟩ ρ (.tmp t)=v)(h:R (.returned v) w):
  Run P f ⟨m,[]⟩ R (.code .ret::k) ρ w:=Run.ret hf (results1 hr hv) h
theorem Run.ret2 {fn:Func}{t u:Nat}{v x:Value}(hf:P.funcs[f]? =some fn)(hr:fn.results=#[.tmp t,.tmp u])(hv:rd ⟨m,[]⟩ ρ (.tmp t)=v)(hx:rd ⟨m,[]⟩ ρ (.tmp u)=x)
  (h:R (.returned (.tuple #[v,x])) w):Run P f ⟨m,[]⟩ R (.code .ret::k) ρ w:=Run.ret hf (results2 hr hv hx) h
theorem Run.ret3 {fn:Func}{t u s:Nat}{v x y:Value}(hf:P.funcs[f]? =some fn)(hr:fn.results=#[.tmp t,.tmp u,.tmp s])(hv:rd ⟨m,[]⟩ ρ (.tmp t)=v)(hx:rd ⟨m,[]⟩ ρ (.tmp u)=x)
  (hy:rd ⟨m,[]⟩ ρ (.tmp s)=y) (h:R (.returned (.tuple #[v,x,y])) w):Run P f ⟨m,[]⟩ R (.code .ret::k) ρ w:=Run.ret hf (results3 hr hv hx hy) h
theorem Run.of_wp {c : Code} (h : c.wp P (Post P f n R k) (act n ρ) w) : Run P f n R (.code c :: k) ρ w := by
  intro cs
  obtain ⟨e, a', w', hq, harr⟩ := h (bf f) k cs
  cases e with
  | normal =>
    obtain ⟨ds, ρ', rfl, hrun⟩ := hq
    obtain ⟨e, w'', fr, hR, hc, hf, hl⟩ := hrun cs
    exact ⟨e, w'', fr, hR, Comes.of_steps harr hc, hf, hl⟩
  | exit id => exact hq.elim
  | goto l => exact hq.elim
  | ret => exact hq.elim
  | panic ch =>
    obtain ⟨hd, ⟨fn, hfn⟩, hR⟩ := hq
    obtain ⟨todo, hs⟩ := harr
    exact ⟨.panicked ch, w', _, hR, hs, rfl, rfl, hd, fn, hfn⟩
  | outgrown =>
    exact ⟨.outgrown, w', bf f, hq, harr.resolve_left (by simp [bf]), rfl, trivial⟩
end
theorem calls_run {P:Program}{f:FuncId}{fn:Func}{c:Code}{n:Nat}{args:Array Value}{w:World}{R:Ending→World→Prop}
  (hf:P.funcs[f]? =some fn) (hb:fn.body=some c) (hn:fn.ntmps=n) (ha:Nat.ble args.size n=true) (h:Run P f ⟨n,[]⟩ R [.code c] (args0 args) w):Calls P f args w R:=by
 intro cs
 have henter:Frame.enter P f args .normal=(bf f).at (act ⟨n,[]⟩ (args0 args)) [.code c]:=by
  have ha':args.size≤n:=Nat.le_of_ble_eq_true ha
  simp only[Frame.enter,Frame.at,hf,hb,bf,act,Option.map_some,Option.getD_some,hn,Option.bind_some]
  rw[act_args n args ha']
 rw[henter]
 exact h cs
def RL (P:Program)(f:FuncId)(n:FN)(R:Ending→World→Prop)(k:List Item)(ops:Array Oper)(l:List Oper)(ρ:Regs)(w:World):Prop:=
 wpList P ops (Post P f n R k) l (act n ρ) w
def Ret (Φ:Value→World→Prop):Ending→World→Prop:=fun e w=>∃v,e= .returned v∧Φ v w
def Enters (P:Program)(g:FuncId):Prop:=∀(args:Array Value) (w:World),(callFunc g args).run P w= .ok (.enter g args) w
theorem enters_of {P:Program}{g:FuncId}{fn:Func}{c:Code}(hf:P.funcs[g]? =some fn)(hb:fn.body=some c)(hn:(fn.name== "runtime.NumGoroutine")=false):Enters P g:=by
 intro args w
 simp only[callFunc,program,Sem.run_bind,Sem.run,Result.andThen_ok,hf,hn,hb]
 rfl
section
variable {P :Program}{f:FuncId}{n:FN}{m:Nat}{R:Ending→World→Prop}{k:List Item}{ops:Array Oper}{rest:List Oper}{ρ:Regs}{w:World}
variable {dst :Option Nat}{op:Op}{ty:TypeId}{pos:String}{af:Array Edge}
theorem Run.region {id:Nat}{l:List Oper}(h:RL P f n R k l.toArray l ρ w):Run P f n R (.code (.region id l.toArray false)::k) ρ w:=
 Run.of_wp (wp_region_lit h)
theorem RL.nil (h:Run P f n R k ρ w):RL P f n R k ops [] ρ w:=⟨n.ds,ρ,rfl,h⟩
def St1 (P:Program)(f:FuncId)(n:FN)(R:Ending→World→Prop)(k:List Item)(o:Oper)(ρ:Regs)(w:World)(K:Regs→World→Prop):Prop:=
 o.wp P (act n ρ) w (fun a' w'=>∃ρ',a'=act n ρ'∧K ρ' w') (Post P f n R k)
theorem RL.st {o:Oper}(hg:o.guard=none)(h:St1 P f n R k o ρ w (RL P f n R k ops rest)):RL P f n R k ops (o::rest) ρ w:=by
 refine wpList_plain hg fun K hK=> ?_
 refine Oper.wp_mono ?_ h
 rintro a' w' ⟨ρ',rfl,h'⟩
 exact hK _ _ h'
variable {K :Regs→World→Prop}
theorem St1.val {v:Value}{w':World}(hrun:(execOp (rd n ρ) ⟨dst,op,ty,pos,af,none⟩).run P w= .ok (.value v) w')
  (h:K (updo ρ dst v) w'):St1 P f n R k ⟨dst,op,ty,pos,af,none⟩ ρ w K:=by
 simp only[St1,Oper.wp,eval_act,hrun,Oper.upon,put_act]
 exact⟨_,rfl,h⟩
theorem St1.skip {w':World}(hrun:(execOp (rd n ρ) ⟨none,op,ty,pos,af,none⟩).run P w= .ok .skip w')
  (h:K ρ w'):St1 P f n R k ⟨none,op,ty,pos,af,none⟩ ρ w K:=by
 simp only[St1,Oper.wp,eval_act,hrun,Oper.upon,put_act]
 exact⟨_,rfl,h⟩
theorem St1.enter {g:FuncId}{vals:Array Value}{Φ:Value→World→Prop}(hrun:(execOp (rd n ρ) ⟨dst,op,ty,pos,af,none⟩).run P w= .ok (.enter g vals) w)
  (hc:Calls P g vals w (Ret Φ)) (h:∀v w',Φ v w'→K (updo ρ dst v) w'):St1 P f n R k ⟨dst,op,ty,pos,af,none⟩ ρ w K:=by
 simp only[St1,Oper.wp,eval_act,hrun,Oper.upon]
 refine hc.mono ?_
 rintro e w' ⟨v,rfl,hΦ⟩
 simp only[put_act]
 exact⟨_,rfl,h v w' hΦ⟩
theorem RL.val {v:Value}{w':World}(hrun:(execOp (rd n ρ) ⟨dst,op,ty,pos,af,none⟩).run P w= .ok (.value v) w')
  (h:RL P f n R k ops rest (updo ρ dst v) w'):RL P f n R k ops (⟨dst,op,ty,pos,af,none⟩::rest) ρ w:=RL.st rfl (St1.val hrun h)
theorem RL.guardT {o:Oper}(hw:Region.wanted o (yielded ops (act n ρ).tmps)=true)(h:RL P f n R k ops ({o with guard:=none}::rest) ρ w):RL P f n R k ops (o::rest) ρ w:=by
 unfold RL wpList at*
 rw[if_pos hw]
 have h2:Region.wanted {o with guard:=none} (yielded ops (act n ρ).tmps)=true:=rfl
 rw[if_pos h2]at h
 exact h
theorem RL.guardF {o:Oper}(hw:Region.wanted o (yielded ops (act n ρ).tmps)=false)(h:RL P f n R k ops rest (updo ρ o.dst undef) w):RL P f n R k ops (o::rest) ρ w:=by
 unfold RL at*
 unfold wpList
 rw[if_neg (by simp[hw]),put_act]
 exact h
theorem wanted_of {o:Oper}{j:Nat}{want b:Bool}{oj:Oper}{t:Nat}(hg:o.guard=some (j,want))(hj:ops[j]? =some oj)(hd:oj.dst=some t)(hb:rd n ρ (.tmp t)= .bool b):
  Region.wanted o (yielded ops (act n ρ).tmps)=(b==want):=by
 have h1:(act n ρ).tmps[t]? =some (.bool b):=by
  have h2:=tmps_getD (n:=n) (ρ:=ρ) t
  rw[hb]at h2
  cases h3:(act n ρ).tmps[t]? with
  |none=>simp[Array.getD_eq_getD_getElem?,h3,undef]at h2
  |some v=>simp[Array.getD_eq_getD_getElem?,h3]at h2;rw[h2]
 simp only[Region.wanted,hg,yielded,hj,hd,Option.bind_some,h1]
 rfl
end
end Go.Proofs.YtocgdeefgohdhaaGreat
