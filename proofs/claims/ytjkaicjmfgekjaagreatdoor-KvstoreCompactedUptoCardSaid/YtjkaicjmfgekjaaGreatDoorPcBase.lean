/-
  Base
-/
import Derived.Calls
import Derived.Tactics
import Derived.Orders
import Derived.OrdersHeld
import Derived.Laws.AppendOwn
import Derived.Below
import Derived.KernelRfl
set_option linter.all false
namespace Go.Proofs.YtjkaicjmfgekjaaGreatDoor
abbrev Aaa:=@Nat.le_trans
abbrev Aab:=@List.length_append
abbrev Aac:=@Nat.le_refl
abbrev Aad:=@List.length_map
abbrev Aae:=@List.mem_map
abbrev Aaf:=@List.map_cons
abbrev Aag:=@List.getElem?_eq_some_iff
abbrev Aah:=@List.mem_singleton
abbrev Aai:=@List.mem_cons
abbrev Aaj:=@List.length_cons
abbrev Aak:=@List.mem_append
abbrev Aal:=@Nat.zero_le
abbrev Aam:=@List.map_append
abbrev Aan:=@List.mem_of_getElem?
abbrev Aao:=@Bool.and_eq_true
abbrev Aap:=@List.take_length
abbrev Aaq:=@Nat.zero_add
abbrev Aar:=@List.append_assoc
abbrev Aas:=@List.length_nil
abbrev Aat:=@List.map_map
abbrev Aau:=@List.mem_cons_of_mem
abbrev Aav:=@List.map_nil
abbrev Aaw:=@List.pairwise_cons
abbrev Aax:=@List.append_nil
abbrev Aay:=@List.nil_append
abbrev Aaz:=@List.getElem?_map
abbrev AaA:=@Array.length_toList
abbrev AaB:=@List.take_of_length_le
abbrev AaC:=@List.mem_cons_self
abbrev AaD:=@Bool.eq_iff_iff
abbrev AaE:=@List.map_congr_left
abbrev AaF:=@List.take_zero
abbrev AaG:=@List.pairwise_iff_getElem
abbrev AaH:=@Bool.not_eq_true'
abbrev AaI:=@List.getElem_of_mem
abbrev AaJ:=@List.take_succ_eq_append_getElem
abbrev AaK:=@List.foldl_cons
abbrev AaL:=@Option.map_some
abbrev AaM:=@List.eq_nil_of_length_eq_zero
abbrev AaN:=@List.nodup_cons
abbrev AaO:=@Nat.not_lt
abbrev AaP:=@Array.getElem?_eq_some_iff
abbrev AaQ:=@List.mem_append_left
abbrev AaR:=@List.mem_append_right
abbrev AaS:=@List.pairwise_append
abbrev AaT:=@Int.toNat_of_nonneg
abbrev AaU:=@List.filter_eq_self
abbrev AaV:=@List.mem_filter
abbrev AaW:=@List.cons_append
abbrev AaX:=@List.length_filter_le
abbrev AaY:=@Nat.succ_mul
abbrev AaZ:=@Nat.mul_le_mul_right
abbrev Aa0:=@List.drop_eq_nil_of_le
abbrev Aa1:=@List.nodup_append
abbrev Aa2:=@List.length_singleton
abbrev Aa3:=@List.length_set
abbrev Aa4:=@Nat.lt_of_lt_of_le
abbrev Aa5:=@List.flatMap_cons
abbrev Aa6:=@List.drop_drop
abbrev Aa7:=@Nat.add_mul
abbrev Aa8:=@List.size_toArray
abbrev Aa9:=@List.map_toArray
abbrev Aba:=@List.length_take_le
abbrev Abb:=@Nat.mod_lt
abbrev Abc:=@Nat.mul_comm
abbrev Abd:=@Array.getElem?_modify
abbrev Abe:=@List.sum_cons
abbrev Abf:=@List.find?_eq_none
abbrev Abg:=@List.foldl_append
abbrev Abh:=@Nat.not_lt_zero
abbrev Abi:=@Array.getD_eq_getD_getElem?
abbrev Abj:=@List.any_eq_true
abbrev Abk:=@Bool.false_eq_true
abbrev Abl:=@Array.getElem?_toList
abbrev Abm:=@List.getElem?_of_mem
abbrev Abn:=@Nat.lt_or_ge
abbrev Abo:=@List.find?_cons
abbrev Abp:=@Bool.or_eq_true
abbrev Abq:=@List.flatMap_append
abbrev Abr:=@Nat.le_of_lt
abbrev Abs:=@Nat.add_assoc
abbrev Abt:=@List.getElem?_drop
abbrev Abu:=@List.ext_getElem?
abbrev Abv:=@Nat.min_eq_left
abbrev Abw:=@Nat.mul_one
abbrev Abx:=@Array.getElem?_setIfInBounds
abbrev Aby:=@Option.map_eq_some_iff
abbrev Abz:=@List.filter_append
abbrev AbA:=@List.append_of_mem
abbrev AbB:=@List.filter_sublist
abbrev AbC:=@List.drop_eq_getElem_cons
abbrev AbD:=@Option.isSome_iff_exists
abbrev AbE:=@Option.getD_some
abbrev AbF:=@List.getElem?_take
abbrev AbG:=@List.drop_left
abbrev AbH:=@List.take_left
abbrev AbI:=@Nat.min_def
abbrev AbJ:=@List.filter_cons
abbrev AbK:=@List.take_append_drop
abbrev AbL:=@List.flatten_cons
abbrev AbM:=@Nat.le_of_ble_eq_true
abbrev AbN:=@Option.bind_some
abbrev AbO:=@List.take_succ_cons
abbrev AbP:=@List.drop_succ_cons
abbrev AbQ:=@List.flatMap_nil
abbrev AbR:=@Option.map_none
abbrev AbS:=@List.all_eq_true
abbrev AbT:=@Array.getElem?_eq_none
abbrev AbU:=@List.take_take
abbrev AbV:=@List.take_append_of_le_length
abbrev AbW:=@List.mem_of_mem_eraseIdx
abbrev AbX:=@List.filter_filter
abbrev AbY:=@Bool.eq_false_iff
abbrev AbZ:=@List.pairwise_map
abbrev Ab0:=@List.mergeSort_perm
abbrev Ab1:=@Nat.le_of_not_lt
abbrev Ab2:=@List.length_take_of_le
abbrev Ab3:=@List.getElem?_eq_none
abbrev Ab4:=@List.getElem?_append_right
abbrev Ab5:=@Array.toList_inj
abbrev Ab6:=@Array.size_append
abbrev Ab7:=@Array.setIfInBounds_comm
abbrev Ab8:=@Nat.pow_le_pow_right
abbrev Ab9:=@List.getElem?_set
abbrev Aca:=@Option.isSome_none
abbrev Acb:=@List.getElem?_cons_zero
abbrev Acc:=@List.eraseIdx_cons_succ
abbrev Acd:=@Array.toList_filter
abbrev Ace:=@List.getElem_map
abbrev Acf:=@List.getLast?_eq_getElem?
abbrev Acg:=@List.mem_of_mem_take
abbrev Ach:=@List.getElem?_take_of_lt
abbrev Aci:=@List.mem_take_iff_getElem
abbrev Acj:=@List.append_cons
abbrev Ack:=@List.getElem?_append_left
abbrev Acl:=@List.take_length_add_append
abbrev Acm:=@List.eraseIdx_cons_zero
abbrev Acn:=@List.getElem?_cons_succ
abbrev Aco:=@List.mem_of_find?_eq_some
abbrev Acp:=@List.sublist_cons_self
abbrev Acq:=@List.perm_ext_iff_of_nodup
abbrev Acr:=@List.attachWith_map_subtype_val
abbrev Acs:=@List.length_attachWith
abbrev Acu:=@List.drop_of_length_le
abbrev Bd :=Nat->Value
def upd (ρ:Bd)(t:Nat)(v:Value):Bd:=λs=>bif Nat.beq s t then v else ρ s
def Bj (ρ:Bd):Option Nat->Value->Bd
 |some t,v=>upd ρ t v
 |none,_=>ρ
structure FN where
 n:Nat
 ds:List Deferred
def Ci (n:FN)(ρ:Bd):Act:=⟨Array.ofFn (n:=n.n) λi=>ρ i,n.ds⟩
def rd (n:FN)(ρ:Bd):Operand->Value
 | .tmp t=>bif Nat.blt t n.n then ρ t else undef
 | .const v=>v
 | .global g=> .pointer (some ⟨g,0,none⟩)
 | .func f=> .func (.func f) #[] #[]
def JA (args:Array Value):Bd:=λt=>(args.toList[t]?).getD undef
def Yw (t n:Nat):Nat.blt t n=decide (t<n):=by
 by_cases h:t<n
 ·simp only[h,decide_true];exact Nat.ble_eq_true_of_le h
 simp only[h,decide_false];cases hb:Nat.blt t n with
 |false=>rfl
 |true=>exact absurd (AbM hb) h
def TV (s t:Nat):Nat.beq s t=decide (s=t):=by
 by_cases h:s=t
 ·subst h;simp
 simp only[h,decide_false];cases hb:Nat.beq s t with
 |false=>rfl
 |true=>exact absurd (Nat.eq_of_beq_eq_true hb) h
def BF (n : FN) (ρ : Bd) : (Ci n ρ).eval = rd n ρ := by
  funext x;cases x with
  | tmp t =>
    simp only [Act.eval, Ci, rd, Yw];by_cases h : t < n.n <;> simp [h]
  | _ => rfl
def B5 (n : FN) (ρ : Bd) (d : Option Nat) (v : Value) : (Ci n ρ).put d v = Ci n (Bj ρ d v) := by
  cases d with
  | none => rfl
  | some d =>
    simp only [Act.put, Ci, Bj];congr 1;apply Array.ext
    · simp
    intro i h1 h2;have hi : i < (Array.ofFn (n := n.n) λi => ρ i).size := by simpa using h1
    rw [Array.getElem_setIfInBounds hi];simp only [Array.getElem_ofFn, upd, TV];by_cases h : d = i
    · subst h; simp
    have h' : ¬ i = d := λe => h e.symm
    simp [h, h']
def TW (n:Nat)(args:Array Value)(h:args.size<=n):args++Array.replicate (n-args.size) undef=Array.ofFn (n:=n) λi=>JA args i:=by
 apply Array.ext
 ·simp;omega
 intro i h1 h2;simp only[Array.getElem_ofFn,JA];rw[Array.getElem_append];split
 ·rename_i hi;simp[hi]
 rename_i hi;simp only[Array.getElem_replicate];rw[Ab3 (by simpa using hi)];rfl
def TX (ρ:Bd)(t:Nat):upd ρ t (ρ t)=ρ:=by
 funext s;simp only[upd,TV];by_cases h:s=t
 ·subst h;simp
 simp[h]
def bf (f:FuncId):Frame:={(default:Frame)with fn:=f,kind:= .normal}
def Ai (P:Program)(f:FuncId)(n:FN)(R:Ending->World->Prop)(k:List Item)(ρ:Bd)(w:World):Prop:=
 ∀cs,∃e w' fr,R e w'/\Comes P (lone ((bf f).at (Ci n ρ) k) cs w) (lone fr cs w') e/\fr.fn=f/\fr.leaving P w' e
def IZ (P:Program)(f:FuncId)(n:FN)(R:Ending->World->Prop)(k:List Item):Exit->Act->World->Prop
 | .normal,a,w=>∃ds ρ,a=Ci ⟨n.n,ds⟩ ρ/\Ai P f ⟨n.n,ds⟩ R k ρ w
 | .panic ch,a,w=>a.defers=[]/\(∃fn,P.funcs[f]? =some fn)/\R (.panicked ch) w
 | .outgrown,_,w=>R .outgrown w
 |_,_,_=>False
section
variable {P :Program}{f:FuncId}{n:FN}{m:Nat}{R:Ending->World->Prop}{k:List Item}{ρ:Bd}{w:World}
def Ai.step {k':List Item}{ρ':Bd}{w':World}
  (hs:∀cs,step P (lone ((bf f).at (Ci n ρ) k) cs w)= .next (lone ((bf f).at (Ci n ρ') k') cs w'))
  (h:Ai P f n R k' ρ' w'):Ai P f n R k ρ w:=λcs=>
 let ⟨e,w'',fr,hR,hc,hf,hl⟩:=h cs
 ⟨e,w'',fr,hR,Comes.of_steps (.one (hs cs)) hc,hf,hl⟩
def Ai.skip (h:Ai P f n R k ρ w):Ai P f n R (.code .skip::k) ρ w:=h.step λ_=>step_skip
def Ai.label {l:Nat}(h:Ai P f n R k ρ w):Ai P f n R (.code (.label l)::k) ρ w:=h.step λ_=>step_label
def Ai.inBlock {id:Nat}(h:Ai P f n R k ρ w):Ai P f n R (.inBlock id::k) ρ w:=h.step λ_=>step_inBlock
def Ai.seq {a b:Code}(h:Ai P f n R (.code a:: .code b::k) ρ w):Ai P f n R (.code (.seq a b)::k) ρ w:=h.step λ_=>step_seq
def Ai.block {id:Nat}{c:Code}(h:Ai P f n R (.code c:: .inBlock id::k) ρ w):Ai P f n R (.code (.block id c)::k) ρ w:=h.step λ_=>step_block
def Ai.exit {id:Nat}{k':List Item}(hk:exitTo id k=some k')(h:Ai P f n R k' ρ w):Ai P f n R (.code (.exit id)::k) ρ w:=h.step λ_=>step_exit hk
def Ai.goto {l:Nat}{k':List Item}(hk:gotoIn l k=some k')(h:Ai P f n R k' ρ w):Ai P f n R (.code (.goto l)::k) ρ w:=h.step λ_=>step_goto hk
def Ai.inLoop {c:Code}(h:Ai P f n R (.code c:: .inLoop c::k) ρ w):Ai P f n R (.inLoop c::k) ρ w:=h.step λ_=>step_inLoop
def Ai.cond {c:Operand}{x y:Code}{t:Bool}(hc:rd n ρ c= .bool t)(h1:t=true->Ai P f n R (.code x::k) ρ w)
  (h2:t=false->Ai P f n R (.code y::k) ρ w):Ai P f n R (.code (.cond c x y)::k) ρ w:=by
 have hc':(Ci n ρ).eval c= .bool t:=by rw[BF];exact hc
 cases t with
 |true=>exact(h1 rfl).step λ_=>step_cond hc'
 |false=>exact(h2 rfl).step λ_=>step_cond hc'
def Ai.condT {c:Operand}{x y:Code}(hc:rd n ρ c= .bool true)(h:Ai P f n R (.code x::k) ρ w):Ai P f n R (.code (.cond c x y)::k) ρ w:=
 Ai.cond hc (λ_=>h) (λe=>by cases e)
def Ai.condF {c:Operand}{x y:Code}(hc:rd n ρ c= .bool false)(h:Ai P f n R (.code y::k) ρ w):Ai P f n R (.code (.cond c x y)::k) ρ w:=
 Ai.cond hc (λe=>by cases e) (λ_=>h)
def Ai.loop {c : Code} {ι : Type} (I : ι -> Bd -> World -> Prop) (μ : ι -> Nat) (i₀ : ι) (h₀ : I i₀ ρ w)
    (round : ∀ i ρ w, I i ρ w -> (∀ i' ρ' w', I i' ρ' w' -> μ i' < μ i -> Ai P f n R (.inLoop c :: k) ρ' w') -> Ai P f n R (.code c :: .inLoop c :: k) ρ w) :
    Ai P f n R (.code (.loop c) :: k) ρ w := by
  have key : ∀ m i ρ w, μ i = m -> I i ρ w -> Ai P f n R (.code c :: .inLoop c :: k) ρ w := by
    intro m;induction m using Nat.strongRecOn with
    | _ m ih =>
      intro i ρ w hm hI;exact round i ρ w hI λi' ρ' w' hI' hlt => Ai.inLoop (ih (μ i') (hm ▸ hlt) i' ρ' w' rfl hI')
  exact (key _ i₀ ρ w rfl h₀).step λ_ => step_loop
def Ai.ret {fn:Func}{v:Value}(hf:P.funcs[f]? =some fn)(hr:(results fn (Ci ⟨m,[]⟩ ρ).tmps).run P w= .ok v w)(h:R (.returned v) w):
  Ai P f ⟨m,[]⟩ R (.code .ret::k) ρ w:=λ_=>
 ⟨.returned v,w,_,h,Steps.one step_ret,rfl,rfl,rfl,rfl,fn,hf,hr⟩
def Ai.fin {fn:Func}{v:Value}(hf:P.funcs[f]? =some fn)(hr:(results fn (Ci ⟨m,[]⟩ ρ).tmps).run P w= .ok v w)(h:R (.returned v) w):
  Ai P f ⟨m,[]⟩ R [] ρ w:=λ_=>
 ⟨.returned v,w,_,h,Steps.one step_end,rfl,rfl,rfl,rfl,fn,hf,hr⟩
def Cp (t:Nat):(Ci n ρ).tmps.getD t undef=rd n ρ (.tmp t):=by
 have:=congrFun (BF n ρ) (.tmp t)
 simpa[Act.eval]using this
def TY {fn:Func}(h:fn.results=#[]):(results fn (Ci n ρ).tmps).run P w= .ok (.tuple #[]) w:=results_none h _ _ _
def Bw {fn:Func}{t:Nat}{v:Value}(h:fn.results=#[.tmp t])(hv:rd n ρ (.tmp t)=v):(results fn (Ci n ρ).tmps).run P w= .ok v w:=by
 rw[results_tmp h,Cp,hv]
def TZ {fn:Func}{t u:Nat}{v x:Value}(h:fn.results=#[.tmp t,.tmp u])(hv:rd n ρ (.tmp t)=v)(hx:rd n ρ (.tmp u)=x):
  (results fn (Ci n ρ).tmps).run P w= .ok (.tuple #[v,x]) w:=by
 rw[results_tmp2 h,Cp,Cp,hv,hx]
def T0 {fn:Func}{t u s:Nat}{v x y:Value}(h:fn.results=#[.tmp t,.tmp u,.tmp s])(hv:rd n ρ (.tmp t)=v)(hx:rd n ρ (.tmp u)=x)(hy:rd n ρ (.tmp s)=y):
  (results fn (Ci n ρ).tmps).run P w= .ok (.tuple #[v,x,y]) w:=by
 rw[<-hv,<-hx,<-hy,<-Cp,<-Cp,<-Cp];simp[results,h]
def Ai.fin0 {fn:Func}(hf:P.funcs[f]? =some fn)(hr:fn.results=#[])(h:R (.returned (.tuple #[])) w):Ai P f ⟨m,[]⟩ R [] ρ w:=Ai.fin hf (TY hr) h
def Ai.ret1 {fn:Func}{t:Nat}{v:Value}(hf:P.funcs[f]? =some fn)(hr:fn.results=#[.tmp t])(hv:rd ⟨m,[]⟩ ρ (.tmp t)=v)(h:R (.returned v) w):
  Ai P f ⟨m,[]⟩ R (.code .ret::k) ρ w:=Ai.ret hf (Bw hr hv) h
def Ai.ret2 {fn:Func}{t u:Nat}{v x:Value}(hf:P.funcs[f]? =some fn)(hr:fn.results=#[.tmp t,.tmp u])(hv:rd ⟨m,[]⟩ ρ (.tmp t)=v)(hx:rd ⟨m,[]⟩ ρ (.tmp u)=x)
  (h:R (.returned (.tuple #[v,x])) w):Ai P f ⟨m,[]⟩ R (.code .ret::k) ρ w:=Ai.ret hf (TZ hr hv hx) h
def Ai.ret3 {fn:Func}{t u s:Nat}{v x y:Value}(hf:P.funcs[f]? =some fn)(hr:fn.results=#[.tmp t,.tmp u,.tmp s])(hv:rd ⟨m,[]⟩ ρ (.tmp t)=v)(hx:rd ⟨m,[]⟩ ρ (.tmp u)=x)
  (hy:rd ⟨m,[]⟩ ρ (.tmp s)=y) (h:R (.returned (.tuple #[v,x,y])) w):Ai P f ⟨m,[]⟩ R (.code .ret::k) ρ w:=Ai.ret hf (T0 hr hv hx hy) h
def Ai.of_wp {c : Code} (h : c.wp P (IZ P f n R k) (Ci n ρ) w) : Ai P f n R (.code c :: k) ρ w := by
  intro cs;obtain ⟨e, a', w', hq, harr⟩ := h (bf f) k cs;cases e with
  | normal =>
    obtain ⟨ds, ρ', rfl, hrun⟩ := hq;obtain ⟨e, w'', fr, hR, hc, hf, hl⟩ := hrun cs;exact ⟨e, w'', fr, hR, Comes.of_steps harr hc, hf, hl⟩
  | exit id => exact hq.elim
  | goto l => exact hq.elim
  | ret => exact hq.elim
  | panic ch =>
    obtain ⟨hd, ⟨fn, hfn⟩, hR⟩ := hq;obtain ⟨todo, hs⟩ := harr;exact ⟨.panicked ch, w', _, hR, hs, rfl, rfl, hd, fn, hfn⟩
  | outgrown =>
    exact ⟨.outgrown, w', bf f, hq, harr.resolve_left (by simp [bf]), rfl, trivial⟩
end
def Ac {P:Program}{f:FuncId}{fn:Func}{c:Code}{n:Nat}{args:Array Value}{w:World}{R:Ending->World->Prop}
  (hf:P.funcs[f]? =some fn) (hb:fn.body=some c) (hn:fn.ntmps=n) (ha:Nat.ble args.size n=true) (h:Ai P f ⟨n,[]⟩ R [.code c] (JA args) w):Calls P f args w R:=by
 intro cs;have henter:Frame.enter P f args .normal=(bf f).at (Ci ⟨n,[]⟩ (JA args)) [.code c]:=by
  have ha':args.size<=n:=AbM ha;simp only[Frame.enter,Frame.at,hf,hb,bf,Ci,AaL,AbE,hn,AbN];rw[TW n args ha']
 rw[henter];exact h cs
def RL (P:Program)(f:FuncId)(n:FN)(R:Ending->World->Prop)(k:List Item)(ops:Array Oper)(l:List Oper)(ρ:Bd)(w:World):Prop:=
 wpList P ops (IZ P f n R k) l (Ci n ρ) w
def AU (Φ:Value->World->Prop):Ending->World->Prop:=λe w=>∃v,e= .returned v/\Φ v w
def DQ (P:Program)(g:FuncId):Prop:=∀(args:Array Value) (w:World),(callFunc g args).run P w= .ok (.enter g args) w
def C1 {P:Program}{g:FuncId}{fn:Func}{c:Code}(hf:P.funcs[g]? =some fn)(hb:fn.body=some c)(hn:(fn.name== "runtime.NumGoroutine")=false):DQ P g:=by
 intro args w;simp only[callFunc,program,Sem.run_bind,Sem.run,Result.andThen_ok,hf,hn,hb];rfl
section
variable {P :Program}{f:FuncId}{n:FN}{m:Nat}{R:Ending->World->Prop}{k:List Item}{ops:Array Oper}{rest:List Oper}{ρ:Bd}{w:World}
variable {dst :Option Nat}{op:Op}{ty:TypeId}{pos:String}{af:Array Edge}
def Ai.region {id:Nat}{l:List Oper}(h:RL P f n R k l.toArray l ρ w):Ai P f n R (.code (.region id l.toArray false)::k) ρ w:=
 Ai.of_wp (wp_region_lit h)
def RL.nil (h:Ai P f n R k ρ w):RL P f n R k ops [] ρ w:=⟨n.ds,ρ,rfl,h⟩
def AB (P:Program)(f:FuncId)(n:FN)(R:Ending->World->Prop)(k:List Item)(o:Oper)(ρ:Bd)(w:World)(K:Bd->World->Prop):Prop:=
 o.wp P (Ci n ρ) w (λa' w'=>∃ρ',a'=Ci n ρ'/\K ρ' w') (IZ P f n R k)
def RL.st {o:Oper}(hg:o.guard=none)(h:AB P f n R k o ρ w (RL P f n R k ops rest)):RL P f n R k ops (o::rest) ρ w:=by
 refine wpList_plain hg λK hK=> ?_;refine Oper.wp_mono ?_ h;rintro a' w' ⟨ρ',rfl,h'⟩;exact hK _ _ h'
variable {K :Bd->World->Prop}
def AB.val {v:Value}{w':World}(hrun:(execOp (rd n ρ) ⟨dst,op,ty,pos,af,none⟩).run P w= .ok (.value v) w')
  (h:K (Bj ρ dst v) w'):AB P f n R k ⟨dst,op,ty,pos,af,none⟩ ρ w K:=by
 simp only[AB,Oper.wp,BF,hrun,Oper.upon,B5];exact⟨_,rfl,h⟩
def AB.skip {w':World}(hrun:(execOp (rd n ρ) ⟨none,op,ty,pos,af,none⟩).run P w= .ok .skip w')
  (h:K ρ w'):AB P f n R k ⟨none,op,ty,pos,af,none⟩ ρ w K:=by
 simp only[AB,Oper.wp,BF,hrun,Oper.upon,B5];exact⟨_,rfl,h⟩
def AB.enter {g:FuncId}{vals:Array Value}{Φ:Value->World->Prop}(hrun:(execOp (rd n ρ) ⟨dst,op,ty,pos,af,none⟩).run P w= .ok (.enter g vals) w)
  (hc:Calls P g vals w (AU Φ)) (h:∀v w',Φ v w'->K (Bj ρ dst v) w'):AB P f n R k ⟨dst,op,ty,pos,af,none⟩ ρ w K:=by
 simp only[AB,Oper.wp,BF,hrun,Oper.upon];refine hc.mono ?_;rintro e w' ⟨v,rfl,hΦ⟩;simp only[B5];exact⟨_,rfl,h v w' hΦ⟩
def RL.val {v:Value}{w':World}(hrun:(execOp (rd n ρ) ⟨dst,op,ty,pos,af,none⟩).run P w= .ok (.value v) w')
  (h:RL P f n R k ops rest (Bj ρ dst v) w'):RL P f n R k ops (⟨dst,op,ty,pos,af,none⟩::rest) ρ w:=RL.st rfl (AB.val hrun h)
def RL.guardT {o:Oper}(hw:Region.wanted o (yielded ops (Ci n ρ).tmps)=true)(h:RL P f n R k ops ({o with guard:=none}::rest) ρ w):RL P f n R k ops (o::rest) ρ w:=by
 unfold RL wpList at*;rw[if_pos hw];have h2:Region.wanted {o with guard:=none} (yielded ops (Ci n ρ).tmps)=true:=rfl;rw[if_pos h2]at h;exact h
def RL.guardF {o:Oper}(hw:Region.wanted o (yielded ops (Ci n ρ).tmps)=false)(h:RL P f n R k ops rest (Bj ρ o.dst undef) w):RL P f n R k ops (o::rest) ρ w:=by
 unfold RL at*;unfold wpList;rw[if_neg (by simp[hw]),B5];exact h
def L5 {o:Oper}{j:Nat}{want b:Bool}{oj:Oper}{t:Nat}(hg:o.guard=some (j,want))(hj:ops[j]? =some oj)(hd:oj.dst=some t)(hb:rd n ρ (.tmp t)= .bool b):
  Region.wanted o (yielded ops (Ci n ρ).tmps)=(b==want):=by
 have h1:(Ci n ρ).tmps[t]? =some (.bool b):=by
  have h2:=Cp (n:=n) (ρ:=ρ) t;rw[hb]at h2;cases h3:(Ci n ρ).tmps[t]? with
  |none=>simp[Abi,h3,undef]at h2
  |some v=>simp[Abi,h3]at h2;rw[h2]
 simp only[Region.wanted,hg,yielded,hj,hd,AbN,h1];rfl
end
def Zx {A:Nat->Prop}{b:Nat}(h:¬A b):∀q,A q->¬(q=b):=λq x e=>h (Eq.subst (motive:=A) e x)
def Zw {b n:Nat}(h:n<=b:=by omega):∀q,q=b->n<=q:=λq e=>Aaa h (Nat.le_of_eq e.symm)
def Zf {A B:Nat->Prop}(h:∀q,A q->¬B q):∀q,B q->¬A q:=λq x y=>h q y x
def Zo {p:Prop}(h:p:=by omega):p:=h
def Zk {p:Prop}(h:p:=by kernel_rfl):p:=h
def Zd {p:Prop}(h:p:=by decide):p:=h
def Zs {p:Prop}(h:p:=by simp):p:=h
def Za {p:Prop}(h:p:=by assumption):p:=h
def Zl {p:Prop}(h:p:=by first|omega|(simp only[Aa3];omega)):p:=h
def Zr {p:Prop}(h:p:=by first|omega|(simp only[lr];omega)):p:=h
def Ze {p:Prop}(h:p:=by first|decide|(simp[Enc.size])):p:=h
def Zv {p:Prop}(h:p:=by simp[Value.cells,Value.oneCell']):p:=h
def Zn {p:Prop}(h:p:=by first|omega|(simp only[Aab,Aas];omega)):p:=h
def Zt {p:Prop}(h:p:=by rw[List.length_take];omega):p:=h
def Zp {p:Prop}(h:p:=by simp only;omega):p:=h
def Zi {p:Prop}(h:p:=by simp;omega):p:=h
def Zh {p:Prop}(h:p:=by rw[List.length_drop];omega):p:=h
def Zq {p:Prop}(h:p:=by rw[AaD];simp):p:=h
end Go.Proofs.YtjkaicjmfgekjaaGreatDoor
