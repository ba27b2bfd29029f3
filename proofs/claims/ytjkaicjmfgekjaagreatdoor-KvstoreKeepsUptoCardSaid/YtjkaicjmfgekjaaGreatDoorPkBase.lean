/-
  Base
-/
import Derived.Calls
import Derived.Tactics
import Derived.Orders
import Derived.OrdersHeld
import Derived.Laws.AppendOwn
import Derived.Below
import Derived.KernelRfl
set_option linter.all false
namespace Go.Proofs.YtjkaicjmfgekjaaGreatDoor
abbrev Aaa:=@Nat.le_trans
abbrev Aab:=@List.length_append
abbrev Aac:=@Nat.le_refl
abbrev Aad:=@List.length_map
abbrev Aae:=@List.map_cons
abbrev Aaf:=@List.mem_map
abbrev Aag:=@List.getElem?_eq_some_iff
abbrev Aah:=@List.mem_singleton
abbrev Aai:=@List.mem_cons
abbrev Aaj:=@List.length_cons
abbrev Aak:=@List.mem_append
abbrev Aal:=@Nat.zero_le
abbrev Aam:=@List.map_append
abbrev Aan:=@List.mem_of_getElem?
abbrev Aao:=@Bool.and_eq_true
abbrev Aap:=@List.append_assoc
abbrev Aaq:=@Nat.zero_add
abbrev Aar:=@List.length_nil
abbrev Aas:=@List.take_length
abbrev Aat:=@List.map_map
abbrev Aau:=@List.map_nil
abbrev Aav:=@List.pairwise_cons
abbrev Aaw:=@List.append_nil
abbrev Aax:=@List.getElem?_map
abbrev Aay:=@Array.length_toList
abbrev Aaz:=@List.nil_append
abbrev AaA:=@List.take_of_length_le
abbrev AaB:=@List.mem_cons_of_mem
abbrev AaC:=@Bool.eq_iff_iff
abbrev AaD:=@List.pairwise_iff_getElem
abbrev AaE:=@List.take_zero
abbrev AaF:=@List.map_congr_left
abbrev AaG:=@List.getElem_of_mem
abbrev AaH:=@Option.map_some
abbrev AaI:=@List.foldl_cons
abbrev AaJ:=@Nat.not_lt
abbrev AaK:=@List.eq_nil_of_length_eq_zero
abbrev AaL:=@List.take_succ_eq_append_getElem
abbrev AaM:=@List.mem_append_left
abbrev AaN:=@Array.getElem?_eq_some_iff
abbrev AaO:=@Bool.not_eq_true'
abbrev AaP:=@List.mem_append_right
abbrev AaQ:=@Int.toNat_of_nonneg
abbrev AaR:=@List.nodup_cons
abbrev AaS:=@List.length_singleton
abbrev AaT:=@List.length_filter_le
abbrev AaU:=@List.mem_cons_self
abbrev AaV:=@List.flatMap_cons
abbrev AaW:=@Nat.succ_mul
abbrev AaX:=@Nat.mul_le_mul_right
abbrev AaY:=@List.drop_eq_nil_of_le
abbrev AaZ:=@List.mem_filter
abbrev Aa0:=@Nat.mod_lt
abbrev Aa1:=@List.sum_cons
abbrev Aa2:=@List.pairwise_append
abbrev Aa3:=@List.length_set
abbrev Aa4:=@Nat.lt_of_lt_of_le
abbrev Aa5:=@List.drop_drop
abbrev Aa6:=@Nat.add_mul
abbrev Aa7:=@List.size_toArray
abbrev Aa8:=@List.map_toArray
abbrev Aa9:=@List.any_eq_true
abbrev Aba:=@List.length_take_le
abbrev Abb:=@Nat.mul_comm
abbrev Abc:=@Array.getElem?_modify
abbrev Abd:=@List.nodup_append
abbrev Abe:=@List.find?_eq_none
abbrev Abf:=@List.foldl_append
abbrev Abg:=@Nat.not_lt_zero
abbrev Abh:=@Array.getD_eq_getD_getElem?
abbrev Abi:=@List.take_succ_cons
abbrev Abj:=@Bool.false_eq_true
abbrev Abk:=@List.find?_cons
abbrev Abl:=@Array.getElem?_toList
abbrev Abm:=@List.cons_append
abbrev Abn:=@List.getElem?_of_mem
abbrev Abo:=@Nat.lt_or_ge
abbrev Abp:=@Option.map_eq_some_iff
abbrev Abq:=@List.filter_eq_self
abbrev Abr:=@Nat.add_assoc
abbrev Abs:=@List.getElem?_drop
abbrev Abt:=@List.take_left
abbrev Abu:=@List.ext_getElem?
abbrev Abv:=@Nat.min_eq_left
abbrev Abw:=@List.take_append_of_le_length
abbrev Abx:=@Nat.mul_one
abbrev Aby:=@Array.getElem?_setIfInBounds
abbrev Abz:=@List.filter_append
abbrev AbA:=@List.append_of_mem
abbrev AbB:=@List.filter_sublist
abbrev AbC:=@List.drop_eq_getElem_cons
abbrev AbD:=@Bool.or_eq_true
abbrev AbE:=@Nat.le_of_lt
abbrev AbF:=@Option.isSome_iff_exists
abbrev AbG:=@Option.getD_some
abbrev AbH:=@Nat.add_comm
abbrev AbI:=@List.drop_left
abbrev AbJ:=@Nat.min_def
abbrev AbK:=@List.filter_cons
abbrev AbL:=@List.mem_of_mem_take
abbrev AbM:=@Nat.le_of_ble_eq_true
abbrev AbN:=@Option.bind_some
abbrev AbO:=@List.getElem?_take
abbrev AbP:=@List.drop_succ_cons
abbrev AbQ:=@Option.map_none
abbrev AbR:=@List.all_eq_true
abbrev AbS:=@Array.getElem?_eq_none
abbrev AbT:=@List.take_take
abbrev AbU:=@List.mem_of_mem_eraseIdx
abbrev AbV:=@Nat.le_of_not_lt
abbrev AbW:=@List.length_take_of_le
abbrev AbX:=@List.getElem?_eq_none
abbrev AbY:=@List.getElem?_append_right
abbrev AbZ:=@Array.toList_inj
abbrev Ab0:=@Array.size_append
abbrev Ab1:=@List.flatMap_nil
abbrev Ab2:=@Array.setIfInBounds_comm
abbrev Ab3:=@Nat.pow_le_pow_right
abbrev Ab4:=@Int.toNat_natCast
abbrev Ab5:=@List.getElem?_set
abbrev Ab6:=@Option.isSome_none
abbrev Ab7:=@List.getElem?_cons_zero
abbrev Ab8:=@List.eraseIdx_cons_succ
abbrev Ab9:=@Array.toList_filter
abbrev Aca:=@List.filter_filter
abbrev Acb:=@Bool.eq_false_iff
abbrev Acc:=@List.mem_of_find?_eq_some
abbrev Acd:=@List.take_append_drop
abbrev Ace:=@List.getElem_map
abbrev Acf:=@List.pairwise_map
abbrev Acg:=@List.getLast?_eq_getElem?
abbrev Ach:=@List.flatMap_append
abbrev Aci:=@List.flatten_cons
abbrev Acj:=@List.getElem?_take_of_lt
abbrev Ack:=@Nat.lt_of_le_of_lt
abbrev Acl:=@List.getElem?_append_left
abbrev Acm:=@List.take_length_add_append
abbrev Acn:=@List.eraseIdx_cons_zero
abbrev Aco:=@List.getElem?_cons_succ
abbrev Acp:=@List.sublist_cons_self
abbrev Acq:=@List.attachWith_map_subtype_val
abbrev Acr:=@List.length_attachWith
abbrev Acs:=@List.mem_take_iff_getElem
abbrev Acu:=@List.drop_of_length_le
abbrev A8 :=Nat->Value
def upd (ρ:A8)(t:Nat)(v:Value):A8:=fun s=>bif Nat.beq s t then v else ρ s
def Bc (ρ:A8):Option Nat->Value->A8
 |some t,v=>upd ρ t v
 |none,_=>ρ
structure FN where
 n:Nat
 ds:List Deferred
def B6 (n:FN)(ρ:A8):Act:=⟨Array.ofFn (n:=n.n) fun i=>ρ i,n.ds⟩
def rd (n:FN)(ρ:A8):Operand->Value
 | .tmp t=>bif Nat.blt t n.n then ρ t else undef
 | .const v=>v
 | .global g=> .pointer (some ⟨g,0,none⟩)
 | .func f=> .func (.func f) #[] #[]
def Je (args:Array Value):A8:=fun t=>(args.toList[t]?).getD undef
theorem XY (t n:Nat):Nat.blt t n=decide (t<n):=by
 by_cases h:t<n
 ·simp only[h,decide_true];exact Nat.ble_eq_true_of_le h
 ·simp only[h,decide_false]
  cases hb:Nat.blt t n with
  |false=>rfl
  |true=>exact absurd (AbM hb) h
theorem Tm (s t:Nat):Nat.beq s t=decide (s=t):=by
 by_cases h:s=t
 ·subst h;simp
 ·simp only[h,decide_false]
  cases hb:Nat.beq s t with
  |false=>rfl
  |true=>exact absurd (Nat.eq_of_beq_eq_true hb) h
theorem BB (n : FN) (ρ : A8) : (B6 n ρ).eval = rd n ρ := by
  funext x
  cases x with
  | tmp t =>
    simp only [Act.eval, B6, rd, XY]
    by_cases h : t < n.n <;> simp [h]
  | _ => rfl
theorem BS (n : FN) (ρ : A8) (d : Option Nat) (v : Value) : (B6 n ρ).put d v = B6 n (Bc ρ d v) := by
  cases d with
  | none => rfl
  | some d =>
    simp only [Act.put, B6, Bc]
    congr 1
    apply Array.ext
    · simp
    · intro i h1 h2
      have hi : i < (Array.ofFn (n := n.n) fun i => ρ i).size := by simpa using h1
      rw [Array.getElem_setIfInBounds hi]
      simp only [Array.getElem_ofFn, upd, Tm]
      by_cases h : d = i
      · subst h; simp
      · have h' : ¬ i = d := fun e => h e.symm
        simp [h, h']
theorem Tn (n:Nat)(args:Array Value)(h:args.size<=n):args++Array.replicate (n-args.size) undef=Array.ofFn (n:=n) fun i=>Je args i:=by
 apply Array.ext
 ·simp;omega
 ·intro i h1 h2
  simp only[Array.getElem_ofFn,Je]
  rw[Array.getElem_append]
  split
  ·rename_i hi;simp[hi]
  ·rename_i hi
   simp only[Array.getElem_replicate]
   rw[AbX (by simpa using hi)]
   rfl
theorem To (ρ:A8)(t:Nat):upd ρ t (ρ t)=ρ:=by
 funext s
 simp only[upd,Tm]
 by_cases h:s=t
 ·subst h;simp
 ·simp[h]
def bf (f:FuncId):Frame:={(default:Frame)with fn:=f,kind:= .normal}
def Ai (P:Program)(f:FuncId)(n:FN)(R:Ending->World->Prop)(k:List Item)(ρ:A8)(w:World):Prop:=
 ∀cs,∃e w' fr,R e w'∧Comes P (lone ((bf f).at (B6 n ρ) k) cs w) (lone fr cs w') e∧fr.fn=f∧fr.leaving P w' e
def IG (P:Program)(f:FuncId)(n:FN)(R:Ending->World->Prop)(k:List Item):Exit->Act->World->Prop
 | .normal,a,w=>∃ds ρ,a=B6 ⟨n.n,ds⟩ ρ∧Ai P f ⟨n.n,ds⟩ R k ρ w
 | .panic ch,a,w=>a.defers=[]∧(∃fn,P.funcs[f]? =some fn)∧R (.panicked ch) w
 | .outgrown,_,w=>R .outgrown w
 |_,_,_=>False
section
variable {P :Program}{f:FuncId}{n:FN}{m:Nat}{R:Ending->World->Prop}{k:List Item}{ρ:A8}{w:World}
theorem Ai.step {k':List Item}{ρ':A8}{w':World}
  (hs:∀cs,step P (lone ((bf f).at (B6 n ρ) k) cs w)= .next (lone ((bf f).at (B6 n ρ') k') cs w'))
  (h:Ai P f n R k' ρ' w'):Ai P f n R k ρ w:=fun cs=>
 let ⟨e,w'',fr,hR,hc,hf,hl⟩:=h cs
 ⟨e,w'',fr,hR,Comes.of_steps (.one (hs cs)) hc,hf,hl⟩
theorem Ai.skip (h:Ai P f n R k ρ w):Ai P f n R (.code .skip::k) ρ w:=h.step fun _=>step_skip
theorem Ai.label {l:Nat}(h:Ai P f n R k ρ w):Ai P f n R (.code (.label l)::k) ρ w:=h.step fun _=>step_label
theorem Ai.inBlock {id:Nat}(h:Ai P f n R k ρ w):Ai P f n R (.inBlock id::k) ρ w:=h.step fun _=>step_inBlock
theorem Ai.seq {a b:Code}(h:Ai P f n R (.code a:: .code b::k) ρ w):Ai P f n R (.code (.seq a b)::k) ρ w:=h.step fun _=>step_seq
theorem Ai.block {id:Nat}{c:Code}(h:Ai P f n R (.code c:: .inBlock id::k) ρ w):Ai P f n R (.code (.block id c)::k) ρ w:=h.step fun _=>step_block
theorem Ai.exit {id:Nat}{k':List Item}(hk:exitTo id k=some k')(h:Ai P f n R k' ρ w):Ai P f n R (.code (.exit id)::k) ρ w:=h.step fun _=>step_exit hk
theorem Ai.goto {l:Nat}{k':List Item}(hk:gotoIn l k=some k')(h:Ai P f n R k' ρ w):Ai P f n R (.code (.goto l)::k) ρ w:=h.step fun _=>step_goto hk
theorem Ai.inLoop {c:Code}(h:Ai P f n R (.code c:: .inLoop c::k) ρ w):Ai P f n R (.inLoop c::k) ρ w:=h.step fun _=>step_inLoop
theorem Ai.cond {c:Operand}{x y:Code}{t:Bool}(hc:rd n ρ c= .bool t)(h1:t=true->Ai P f n R (.code x::k) ρ w)
  (h2:t=false->Ai P f n R (.code y::k) ρ w):Ai P f n R (.code (.cond c x y)::k) ρ w:=by
 have hc':(B6 n ρ).eval c= .bool t:=by rw[BB];exact hc
 cases t with
 |true=>exact(h1 rfl).step fun _=>step_cond hc'
 |false=>exact(h2 rfl).step fun _=>step_cond hc'
theorem Ai.condT {c:Operand}{x y:Code}(hc:rd n ρ c= .bool true)(h:Ai P f n R (.code x::k) ρ w):Ai P f n R (.code (.cond c x y)::k) ρ w:=
 Ai.cond hc (fun _=>h) (fun e=>by cases e)
theorem Ai.condF {c:Operand}{x y:Code}(hc:rd n ρ c= .bool false)(h:Ai P f n R (.code y::k) ρ w):Ai P f n R (.code (.cond c x y)::k) ρ w:=
 Ai.cond hc (fun e=>by cases e) (fun _=>h)
theorem Ai.loop {c : Code} {ι : Type} (I : ι -> A8 -> World -> Prop) (μ : ι -> Nat) (i₀ : ι) (h₀ : I i₀ ρ w)
    (round : ∀ i ρ w, I i ρ w -> (∀ i' ρ' w', I i' ρ' w' -> μ i' < μ i -> Ai P f n R (.inLoop c :: k) ρ' w') -> Ai P f n R (.code c :: .inLoop c :: k) ρ w) :
    Ai P f n R (.code (.loop c) :: k) ρ w := by
  have key : ∀ m i ρ w, μ i = m -> I i ρ w -> Ai P f n R (.code c :: .inLoop c :: k) ρ w := by
    intro m
    induction m using Nat.strongRecOn with
    | _ m ih =>
      intro i ρ w hm hI
      exact round i ρ w hI fun i' ρ' w' hI' hlt => Ai.inLoop (ih (μ i') (hm ▸ hlt) i' ρ' w' rfl hI')
  exact (key _ i₀ ρ w rfl h₀).step fun _ => step_loop
theorem Ai.ret {fn:Func}{v:Value}(hf:P.funcs[f]? =some fn)(hr:(results fn (B6 ⟨m,[]⟩ ρ).tmps).run P w= .ok v w)(h:R (.returned v) w):
  Ai P f ⟨m,[]⟩ R (.code .ret::k) ρ w:=fun _=>
 ⟨.returned v,w,_,h,Steps.one step_ret,rfl,rfl,rfl,rfl,fn,hf,hr⟩
theorem Ai.fin {fn:Func}{v:Value}(hf:P.funcs[f]? =some fn)(hr:(results fn (B6 ⟨m,[]⟩ ρ).tmps).run P w= .ok v w)(h:R (.returned v) w):
  Ai P f ⟨m,[]⟩ R [] ρ w:=fun _=>
 ⟨.returned v,w,_,h,Steps.one step_end,rfl,rfl,rfl,rfl,fn,hf,hr⟩
theorem Cc (t:Nat):(B6 n ρ).tmps.getD t undef=rd n ρ (.tmp t):=by
 have:=congrFun (BB n ρ) (.tmp t)
 simpa[Act.eval]using this
theorem Tp {fn:Func}(h:fn.results=#[]):(results fn (B6 n ρ).tmps).run P w= .ok (.tuple #[]) w:=results_none h _ _ _
theorem Bq {fn:Func}{t:Nat}{v:Value}(h:fn.results=#[.tmp t])(hv:rd n ρ (.tmp t)=v):(results fn (B6 n ρ).tmps).run P w= .ok v w:=by
 rw[results_tmp h,Cc,hv]
theorem Tq {fn:Func}{t u:Nat}{v x:Value}(h:fn.results=#[.tmp t,.tmp u])(hv:rd n ρ (.tmp t)=v)(hx:rd n ρ (.tmp u)=x):
  (results fn (B6 n ρ).tmps).run P w= .ok (.tuple #[v,x]) w:=by
 rw[results_tmp2 h,Cc,Cc,hv,hx]
theorem Tr {fn:Func}{t u s:Nat}{v x y:Value}(h:fn.results=#[.tmp t,.tmp u,.tmp s])(hv:rd n ρ (.tmp t)=v)(hx:rd n ρ (.tmp u)=x)(hy:rd n ρ (.tmp s)=y):
  (results fn (B6 n ρ).tmps).run P w= .ok (.tuple #[v,x,y]) w:=by
 rw[<-hv,<-hx,<-hy,<-Cc,<-Cc,<-Cc]
 simp[results,h]
theorem Ai.fin0 {fn:Func}(hf:P.funcs[f]? =some fn)(hr:fn.results=#[])(h:R (.returned (.tuple #[])) w):Ai P f ⟨m,[]⟩ R [] ρ w:=Ai.fin hf (Tp hr) h
theorem Ai.ret1 {fn:Func}{t:Nat}{v:Value}(hf:P.funcs[f]? =some fn)(hr:fn.results=#[.tmp t])(hv:rd ⟨m,[]⟩ ρ (.tmp t)=v)(h:R (.returned v) w):
  Ai P f ⟨m,[]⟩ R (.code .ret::k) ρ w:=Ai.ret hf (Bq hr hv) h
theorem Ai.ret2 {fn:Func}{t u:Nat}{v x:Value}(hf:P.funcs[f]? =some fn)(hr:fn.results=#[.tmp t,.tmp u])(hv:rd ⟨m,[]⟩ ρ (.tmp t)=v)(hx:rd ⟨m,[]⟩ ρ (.tmp u)=x)
  (h:R (.returned (.tuple #[v,x])) w):Ai P f ⟨m,[]⟩ R (.code .ret::k) ρ w:=Ai.ret hf (Tq hr hv hx) h
theorem Ai.ret3 {fn:Func}{t u s:Nat}{v x y:Value}(hf:P.funcs[f]? =some fn)(hr:fn.results=#[.tmp t,.tmp u,.tmp s])(hv:rd ⟨m,[]⟩ ρ (.tmp t)=v)(hx:rd ⟨m,[]⟩ ρ (.tmp u)=x)
  (hy:rd ⟨m,[]⟩ ρ (.tmp s)=y) (h:R (.returned (.tuple #[v,x,y])) w):Ai P f ⟨m,[]⟩ R (.code .ret::k) ρ w:=Ai.ret hf (Tr hr hv hx hy) h
theorem Ai.of_wp {c : Code} (h : c.wp P (IG P f n R k) (B6 n ρ) w) : Ai P f n R (.code c :: k) ρ w := by
  intro cs
  obtain ⟨e, a', w', hq, harr⟩ := h (bf f) k cs
  cases e with
  | normal =>
    obtain ⟨ds, ρ', rfl, hrun⟩ := hq
    obtain ⟨e, w'', fr, hR, hc, hf, hl⟩ := hrun cs
    exact ⟨e, w'', fr, hR, Comes.of_steps harr hc, hf, hl⟩
  | exit id => exact hq.elim
  | goto l => exact hq.elim
  | ret => exact hq.elim
  | panic ch =>
    obtain ⟨hd, ⟨fn, hfn⟩, hR⟩ := hq
    obtain ⟨todo, hs⟩ := harr
    exact ⟨.panicked ch, w', _, hR, hs, rfl, rfl, hd, fn, hfn⟩
  | outgrown =>
    exact ⟨.outgrown, w', bf f, hq, harr.resolve_left (by simp [bf]), rfl, trivial⟩
end
theorem Ac {P:Program}{f:FuncId}{fn:Func}{c:Code}{n:Nat}{args:Array Value}{w:World}{R:Ending->World->Prop}
  (hf:P.funcs[f]? =some fn) (hb:fn.body=some c) (hn:fn.ntmps=n) (ha:Nat.ble args.size n=true) (h:Ai P f ⟨n,[]⟩ R [.code c] (Je args) w):Calls P f args w R:=by
 intro cs
 have henter:Frame.enter P f args .normal=(bf f).at (B6 ⟨n,[]⟩ (Je args)) [.code c]:=by
  have ha':args.size<=n:=AbM ha
  simp only[Frame.enter,Frame.at,hf,hb,bf,B6,AaH,AbG,hn,AbN]
  rw[Tn n args ha']
 rw[henter]
 exact h cs
def RL (P:Program)(f:FuncId)(n:FN)(R:Ending->World->Prop)(k:List Item)(ops:Array Oper)(l:List Oper)(ρ:A8)(w:World):Prop:=
 wpList P ops (IG P f n R k) l (B6 n ρ) w
def AN (Φ:Value->World->Prop):Ending->World->Prop:=fun e w=>∃v,e= .returned v∧Φ v w
def DB (P:Program)(g:FuncId):Prop:=∀(args:Array Value) (w:World),(callFunc g args).run P w= .ok (.enter g args) w
theorem Du {P:Program}{g:FuncId}{fn:Func}{c:Code}(hf:P.funcs[g]? =some fn)(hb:fn.body=some c)(hn:(fn.name== "runtime.NumGoroutine")=false):DB P g:=by
 intro args w
 simp only[callFunc,program,Sem.run_bind,Sem.run,Result.andThen_ok,hf,hn,hb]
 rfl
section
variable {P :Program}{f:FuncId}{n:FN}{m:Nat}{R:Ending->World->Prop}{k:List Item}{ops:Array Oper}{rest:List Oper}{ρ:A8}{w:World}
variable {dst :Option Nat}{op:Op}{ty:TypeId}{pos:String}{af:Array Edge}
theorem Ai.region {id:Nat}{l:List Oper}(h:RL P f n R k l.toArray l ρ w):Ai P f n R (.code (.region id l.toArray false)::k) ρ w:=
 Ai.of_wp (wp_region_lit h)
theorem RL.nil (h:Ai P f n R k ρ w):RL P f n R k ops [] ρ w:=⟨n.ds,ρ,rfl,h⟩
def AA (P:Program)(f:FuncId)(n:FN)(R:Ending->World->Prop)(k:List Item)(o:Oper)(ρ:A8)(w:World)(K:A8->World->Prop):Prop:=
 o.wp P (B6 n ρ) w (fun a' w'=>∃ρ',a'=B6 n ρ'∧K ρ' w') (IG P f n R k)
theorem RL.st {o:Oper}(hg:o.guard=none)(h:AA P f n R k o ρ w (RL P f n R k ops rest)):RL P f n R k ops (o::rest) ρ w:=by
 refine wpList_plain hg fun K hK=> ?_
 refine Oper.wp_mono ?_ h
 rintro a' w' ⟨ρ',rfl,h'⟩
 exact hK _ _ h'
variable {K :A8->World->Prop}
theorem AA.val {v:Value}{w':World}(hrun:(execOp (rd n ρ) ⟨dst,op,ty,pos,af,none⟩).run P w= .ok (.value v) w')
  (h:K (Bc ρ dst v) w'):AA P f n R k ⟨dst,op,ty,pos,af,none⟩ ρ w K:=by
 simp only[AA,Oper.wp,BB,hrun,Oper.upon,BS]
 exact⟨_,rfl,h⟩
theorem AA.skip {w':World}(hrun:(execOp (rd n ρ) ⟨none,op,ty,pos,af,none⟩).run P w= .ok .skip w')
  (h:K ρ w'):AA P f n R k ⟨none,op,ty,pos,af,none⟩ ρ w K:=by
 simp only[AA,Oper.wp,BB,hrun,Oper.upon,BS]
 exact⟨_,rfl,h⟩
theorem AA.enter {g:FuncId}{vals:Array Value}{Φ:Value->World->Prop}(hrun:(execOp (rd n ρ) ⟨dst,op,ty,pos,af,none⟩).run P w= .ok (.enter g vals) w)
  (hc:Calls P g vals w (AN Φ)) (h:∀v w',Φ v w'->K (Bc ρ dst v) w'):AA P f n R k ⟨dst,op,ty,pos,af,none⟩ ρ w K:=by
 simp only[AA,Oper.wp,BB,hrun,Oper.upon]
 refine hc.mono ?_
 rintro e w' ⟨v,rfl,hΦ⟩
 simp only[BS]
 exact⟨_,rfl,h v w' hΦ⟩
theorem RL.val {v:Value}{w':World}(hrun:(execOp (rd n ρ) ⟨dst,op,ty,pos,af,none⟩).run P w= .ok (.value v) w')
  (h:RL P f n R k ops rest (Bc ρ dst v) w'):RL P f n R k ops (⟨dst,op,ty,pos,af,none⟩::rest) ρ w:=RL.st rfl (AA.val hrun h)
theorem RL.guardT {o:Oper}(hw:Region.wanted o (yielded ops (B6 n ρ).tmps)=true)(h:RL P f n R k ops ({o with guard:=none}::rest) ρ w):RL P f n R k ops (o::rest) ρ w:=by
 unfold RL wpList at*
 rw[if_pos hw]
 have h2:Region.wanted {o with guard:=none} (yielded ops (B6 n ρ).tmps)=true:=rfl
 rw[if_pos h2]at h
 exact h
theorem RL.guardF {o:Oper}(hw:Region.wanted o (yielded ops (B6 n ρ).tmps)=false)(h:RL P f n R k ops rest (Bc ρ o.dst undef) w):RL P f n R k ops (o::rest) ρ w:=by
 unfold RL at*
 unfold wpList
 rw[if_neg (by simp[hw]),BS]
 exact h
theorem Lz {o:Oper}{j:Nat}{want b:Bool}{oj:Oper}{t:Nat}(hg:o.guard=some (j,want))(hj:ops[j]? =some oj)(hd:oj.dst=some t)(hb:rd n ρ (.tmp t)= .bool b):
  Region.wanted o (yielded ops (B6 n ρ).tmps)=(b==want):=by
 have h1:(B6 n ρ).tmps[t]? =some (.bool b):=by
  have h2:=Cc (n:=n) (ρ:=ρ) t
  rw[hb]at h2
  cases h3:(B6 n ρ).tmps[t]? with
  |none=>simp[Abh,h3,undef]at h2
  |some v=>simp[Abh,h3]at h2;rw[h2]
 simp only[Region.wanted,hg,yielded,hj,hd,AbN,h1]
 rfl
end
theorem Zx {A:Nat->Prop}{b:Nat}(h:¬A b):∀q,A q->¬(q=b):=fun q x e=>h (Eq.subst (motive:=A) e x)
theorem Zw {b n:Nat}(h:n<=b:=by omega):∀q,q=b->n<=q:=fun q e=>Aaa h (Nat.le_of_eq e.symm)
theorem Zf {A B:Nat->Prop}(h:∀q,A q->¬B q):∀q,B q->¬A q:=fun q x y=>h q y x
theorem Zo {p:Prop}(h:p:=by omega):p:=h
theorem Zk {p:Prop}(h:p:=by kernel_rfl):p:=h
theorem Zd {p:Prop}(h:p:=by decide):p:=h
theorem Zs {p:Prop}(h:p:=by simp):p:=h
theorem Za {p:Prop}(h:p:=by assumption):p:=h
theorem Zl {p:Prop}(h:p:=by first|omega|(simp only[Aa3];omega)):p:=h
theorem Zr {p:Prop}(h:p:=by first|omega|(simp only[lr];omega)):p:=h
theorem Ze {p:Prop}(h:p:=by first|decide|(simp[Enc.size])):p:=h
theorem Zv {p:Prop}(h:p:=by simp[Value.cells,Value.oneCell']):p:=h
theorem Zn {p:Prop}(h:p:=by first|omega|(simp only[Aab,Aar];omega)):p:=h
theorem Zt {p:Prop}(h:p:=by rw[List.length_take];omega):p:=h
theorem Zp {p:Prop}(h:p:=by simp only;omega):p:=h
theorem Zi {p:Prop}(h:p:=by simp;omega):p:=h
theorem Zh {p:Prop}(h:p:=by rw[List.length_drop];omega):p:=h
theorem Zq {p:Prop}(h:p:=by rw[AaC];simp):p:=h
end Go.Proofs.YtjkaicjmfgekjaaGreatDoor
