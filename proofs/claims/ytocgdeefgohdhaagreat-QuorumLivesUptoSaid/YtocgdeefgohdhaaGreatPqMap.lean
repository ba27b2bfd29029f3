/-
  Map
-/
import Derived.Test.YtocgdeefgohdhaaGreatPqLoop
import Derived.Laws.IdiomRangeMap
import Derived.MapKept
import Derived.Lib.AppendZerosOnto
set_option linter.all false
namespace Go.Proofs.YtocgdeefgohdhaaGreat
def H2 {κ:Type}[DecidableEq κ](a:κ):List (κ×Value)→Nat→Option (Nat×Value)
 |[],_=>none
 |p::ps,i=>if a=p.1 then some (i,p.2)else H2 a ps (i+1)
class MKey (κ:Type)[DecidableEq κ] where
 enc:κ→Value
 desc:Program→TypeId→TypeDesc→Prop
 check:∀{P:Program} {k:TypeId} {d:TypeDesc},P.underlying k=some d→desc P k d→∀(a:κ) (e:Bool) (n:Nat) (w:World),(Instr.checkKey e (n+2) k (enc a)).run P w= .ok () w
 find:∀{P:Program} {k:TypeId} {d:TypeDesc},P.underlying k=some d→desc P k d→∀(a:κ) (es:List MapEntry) (ps:List (κ×Value)) (w:World),es.map (fun e=>(e.key,e.val))=ps.map (fun p=>(enc p.1,p.2))→(Instr.findKey k (enc a) es).run P w= .ok (H2 a ps 0) w
 stays:∀(P:Program) (w:World) (a:κ),(Instr.keyThatStays (enc a) (enc a)).run P w= .ok (enc a) w
theorem H3 {κ : Type} [DecidableEq κ] {enc : κ → Value} {d : TypeDesc} (hs : ∀ a b, Instr.sameNow d (enc a) (enc b) = some (decide (a = b))) (a : κ) : ∀ (es : List MapEntry) (ps : List (κ × Value)) (i : Nat), es.map (fun e => (e.key, e.val)) = ps.map (fun p => (enc p.1, p.2)) → Instr.findNow d (enc a) es i = some (H2 a ps i)
  | [], [], _, _ => rfl
  | [], _ :: _, _, h => by simp at h
  | _ :: _, [], _, h => by simp at h
  | e :: es, p :: ps, i, h => by
    simp only [List.map_cons, List.cons.injEq, Prod.mk.injEq] at h
    obtain ⟨⟨h1, h2⟩, h3⟩ := h
    unfold Instr.findNow H2
    rw [h1, hs a p.1]
    by_cases hc : a = p.1
    · simp [hc, h2]
    · simp only [hc, decide_false, if_false]
      exact H3 hs a es ps (i + 1) h3
theorem My {κ:Type}[DecidableEq κ]{enc:κ→Value}{d:TypeDesc}(hk:∀a,MapKept.IsKey d (enc a))(inj:∀a b,enc a=enc b→a=b)(a b:κ):Instr.sameNow d (enc a) (enc b)=some (decide (a=b)):=by
 obtain⟨r,hr,hi⟩:=MapKept.sameNow_of_keys (hk a) (hk b)
 rw[hr]
 congr 1
 rw[Bool.eq_iff_iff,hi,decide_eq_true_eq]
 exact⟨inj a b,fun e=>by rw[e]⟩
theorem Mz {κ:Type}[DecidableEq κ]{enc:κ→Value}{P:Program}{k:TypeId}{d:TypeDesc}(hk:P.underlying k=some d)(hs:∀a b,Instr.sameNow d (enc a) (enc b)=some (decide (a=b)))(a:κ)(es:List MapEntry)(ps:List (κ×Value))(w:World)(h:es.map (fun e=>(e.key,e.val))=ps.map (fun p=>(enc p.1,p.2))):
  (Instr.findKey k (enc a) es).run P w= .ok (H2 a ps 0) w:=by
 simp[Instr.findKey,run_underlying hk,H3 hs a es ps 0 h,Result.andThen]
instance : MKey ByteArray where
 enc s:= .string s
 desc _ _ d:=d= .string
 check hk hd a e n w:=by subst hd;exact MapKept.run_checkKey (w:=w) hk (show MapKept.IsKey .string (.string a)from trivial) e (n+1)
 find hk hd a es ps w h:=by subst hd;exact Mz (enc:=fun s:ByteArray=> .string s) hk (My (enc:=fun s:ByteArray=> .string s) (fun _=>trivial) (fun a b h=>by injection h)) a es ps w h
 stays P w a:=MapKept.run_keyThatStays (P:=P) (w:=w) (d:= .string) (show MapKept.IsKey .string (.string a)from trivial)
instance : MKey Int where
 enc n:= .int .i64 n
 desc _ _ d:=d= .int .i64
 check hk hd a e n w:=by subst hd;exact MapKept.run_checkKey (w:=w) hk (show MapKept.IsKey (.int .i64) (.int .i64 a)from rfl) e (n+1)
 find hk hd a es ps w h:=by subst hd;exact Mz (enc:=fun n:Int=> .int .i64 n) hk (My (enc:=fun n:Int=> .int .i64 n) (fun _=>rfl) (fun a b h=>by injection h)) a es ps w h
 stays P w a:=MapKept.run_keyThatStays (P:=P) (w:=w) (d:= .int .i64) (show MapKept.IsKey (.int .i64) (.int .i64 a)from rfl)
section
variable {κ :Type}
def mget [DecidableEq κ](ps:List (κ×Value))(a:κ):Option Value:=(ps.find? (fun p=>decide (a=p.1))).map (·.2)
structure Ex [DecidableEq κ][MKey κ](w:World)(m:Nat)(ps:List (κ×Value)):Prop where
 ex:∃(es:Array MapEntry) (clock:Nat),w.heap[m]? =some (.map es clock)∧es.toList.map (fun e=>(e.key,e.val))=ps.map (fun p=>(MKey.enc p.1,p.2))∧(es.toList.map (·.born)).Nodup∧(∀e∈es.toList,e.born<clock)
 nodup:(ps.map (·.1)).Nodup
variable {w w':World}{m:Nat}{ps:List (κ×Value)}{S:Nat→Prop}
theorem Ex.lt [DecidableEq κ][MKey κ](h:Ex w m ps):m<w.heap.size:=by obtain⟨⟨_,_,h,_⟩,_⟩:=h;exact B0 h
theorem Ex.keep [DecidableEq κ][MKey κ](h:Ex w m ps)(k:Ao S w w')(hn:¬S m):Ex w' m ps:=by
 have hl:=h.lt
 obtain⟨⟨es,c,h1,h2⟩,h3⟩:=h
 exact⟨⟨es,c,(k.block m hl hn).trans h1,h2⟩,h3⟩
theorem Ex.ext [DecidableEq κ][MKey κ](h:Ex w m ps)(k:As w w'):Ex w' m ps:=h.keep k id
def mput [DecidableEq κ](ps:List (κ×Value))(a:κ)(v:Value):List (κ×Value):=match H2 a ps 0 with
 |some (i,_)=>ps.set i (a,v)
 |none=>ps++[(a,v)]
def mdel [DecidableEq κ](ps:List (κ×Value))(a:κ):List (κ×Value):=match H2 a ps 0 with
 |some (i,_)=>ps.eraseIdx i
 |none=>ps
section
variable {P :Program}{t k e:TypeId}{d:TypeDesc}{a:κ}{v:Value}
structure Dm [DecidableEq κ][MKey κ](w:World)(r m:Nat)(rest:List (κ×Value))(last:Option (κ×Value)):Prop where
 ex:∃(es:Array MapEntry) (clock since:Nat) (seen:Array Nat) (c0:Nat),w.heap[m]? =some (.map es clock)∧w.heap[r]? =some (.mapIter (some m) since seen c0)∧(∀e∈es.toList,e.born<since)∧since≤c0∧since≤clock∧(es.toList.map (·.born)).Nodup∧(leftOf es seen).toList.map (fun e=>(e.key,e.val))=rest.map (fun p=>(MKey.enc p.1,p.2))∧
  (∀p,last=some p→clock=c0∧∃b e,seen.back? =some b∧es.find? (·.born==b)=some e∧(e.key,e.val)=(MKey.enc p.1,p.2))
theorem Dm.lt [DecidableEq κ][MKey κ]{r:Nat}{rest:List (κ×Value)}{last:Option (κ×Value)}(h:Dm w r m rest last):r<w.heap.size∧m<w.heap.size:=by
 obtain⟨_,_,_,_,_,h1,h2,_⟩:=h;exact⟨B0 h2,B0 h1⟩
theorem Dm.keep [DecidableEq κ][MKey κ]{r:Nat}{rest:List (κ×Value)}{last:Option (κ×Value)}(h:Dm w r m rest last)(k:Ao S w w')(hr:¬S r)(hm:¬S m):Dm w' r m rest last:=by
 have hl:=h.lt
 obtain⟨es,c,si,se,c0,h1,h2,h3⟩:=h
 exact⟨es,c,si,se,c0,(k.block m hl.2 hm).trans h1,(k.block r hl.1 hr).trans h2,h3⟩
variable {n :FN}{ρ:A5}{dst:Option Nat}{pos:String}{af:Array Edge}{g:Option (Nat×Bool)}{f:FuncId}{R:Ending→World→Prop}{kk:List Item}{K:A5→World→Prop}{ty:TypeId}
theorem Gn {v v':Value}{w1:World}{o:Oper}(h:X P n ρ o w v w1)(e:v=v'):X P n ρ o w v' w1:=e▸h
theorem Dm.own_lt [DecidableEq κ][MKey κ]{r:Nat}{rest:List (κ×Value)}{last:Option (κ×Value)}(h:Dm w r m rest last):∀q,one r q→q<w.heap.size:=fun q e=>by rw[show q=r from e];exact h.lt.1
theorem Dm.ext [DecidableEq κ][MKey κ]{r:Nat}{rest:List (κ×Value)}{last:Option (κ×Value)}(h:Dm w r m rest last)(k:As w w'):Dm w' r m rest last:=h.keep k id id
theorem Dm.keepO [DecidableEq κ][MKey κ]{r:Nat}{rest:List (κ×Value)}{last:Option (κ×Value)}(h:Dm w r m rest last)(k:Ao S w w')(hr:∀q,one r q→¬S q)(hm:∀q,one m q→¬S q):Dm w' r m rest last:=h.keep k (hr r rfl) (hm m rfl)
structure Hk [DecidableEq κ][MKey κ](w:World)(r m:Nat)(ps rest:List (κ×Value))(last:Option (κ×Value)):Prop where
 map:Ex w m ps
 it:Dm w r m rest last
def Q7 (r m:Nat):Nat→Prop:=fun q=>q=r∨q=m
theorem Ex.own_lt [DecidableEq κ][MKey κ](h:Ex w m ps):∀q,one m q→q<w.heap.size:=fun q e=>by rw[show q=m from e];exact h.lt
theorem Ex.keepO [DecidableEq κ][MKey κ](h:Ex w m ps)(k:Ao S w w')(hn:∀q,one m q→¬S q):Ex w' m ps:=h.keep k (hn m rfl)
theorem Hk.own_lt [DecidableEq κ][MKey κ]{r:Nat}{rest:List (κ×Value)}{last:Option (κ×Value)}(h:Hk w r m ps rest last):∀q,Q7 r m q→q<w.heap.size:=by
 rintro q (rfl|rfl)
 ·exact h.it.lt.1
 ·exact h.it.lt.2
theorem Hk.keepO [DecidableEq κ][MKey κ]{r:Nat}{rest:List (κ×Value)}{last:Option (κ×Value)}(h:Hk w r m ps rest last)(k:Ao S w w')(hn:∀q,Q7 r m q→¬S q):Hk w' r m ps rest last:=
 ⟨h.map.keep k (hn m (.inr rfl)),h.it.keep k (hn r (.inl rfl)) (hn m (.inr rfl))⟩
theorem Hk.ext [DecidableEq κ][MKey κ]{r:Nat}{rest:List (κ×Value)}{last:Option (κ×Value)}(h:Hk w r m ps rest last)(k:As w w'):Hk w' r m ps rest last:=h.keepO k fun _ _=>id
end
end
section
variable {P :Program}{f:FuncId}{n:FN}{R:Ending→World→Prop}{k:List Item}{ρ:A5}{w:World}
variable {dst :Option Nat}{ty:TypeId}{pos:String}{af:Array Edge}{α:Type}[Enc α]{K:A5→World→Prop}{g:Option (Nat×Bool)}
theorem FI {t e:TypeId}{x:Operand}{a:Option Addr}{l c:Nat}(ht:P.underlying t=some (.slice e))(hx:rd n ρ x= .slice a l c):
  X P n ρ ⟨dst,.call {callee:= .builtin .cap,args:=#[x],argTypes:=#[t]},ty,pos,af,g⟩ w (.int .i64 (c:Int)) w:=by
 simp[X,execOp,resolve,invoke,builtin,Builtin.cap_,run_underlying ht,hx,goInt]
theorem AD.appendZeros {t tn e:TypeId}{s x:Operand}{bytes:Nat}{z:Value}{agg:Bool}{kn:IntKind}{q:Nat}(α:Type)[Enc α]
  (ht:P.underlying t=some (.slice e)) (htn:P.underlying tn=some (.int kn)) (he:Ty P e (Enc.size α) bytes z agg) (hzs:z.cells.size=Enc.size α)
  (hs:rd n ρ s= .slice none 0 0) (hx:rd n ρ x= .int .i64 (q:Int)) (h0:0<q) (hq:q≤4294967296) (hb:bytes≤16384)
  (h:∀b cap' w',w.heap.size≤b→q≤cap'→Ag w' e (some ⟨b,0,none⟩) cap' ([]:List α)→As w w'→K (Bo ρ dst (.slice (some ⟨b,0,none⟩) q cap')) w'):
  AD P f n R k ⟨dst,.call {callee:= .builtin .append,args:=#[s,x],argTypes:=#[t,tn]},ty,pos,af,none⟩ ρ w K:=by
 obtain⟨i,hi,hz,hsz,hby⟩:=he.info
 have hpos:=Enc.pos (α:=α)
 have hqb:q*bytes≤4294967296*16384:=Nat.mul_le_mul hq hb
 have hr:=Lib.run_append_grow_zeros (P:=P) w t tn ty e i z .i64 kn ht htn hi hz none 0 0 [] (run_firstCells_none w.drew i.size 0 0 0) q h0 Zo Zo Zo (by rw[hby];omega)
  (by rw[Nat.zero_add,nextslicecap_zero h0,hby];omega)
 rw[Nat.zero_add]at hr
 have hge:=grownCap_ge w q 0 e
 have hcm:grownCap w q 0 e≤maxLen:=grownCap_le_maxLen w _ 0 e (by simp only[maxLen];omega)
 refine AD.val (v:= .slice (some ⟨w.heap.size,0,none⟩) q (grownCap w q 0 e)) (w':=w.drew.alloc (.cells (([]:List Value).toArray++Builtin.zeroCells z.cells q++Builtin.zeroCells z.cells (grownCap w q 0 e-q)) e)) (by simp only[execOp,resolve,invoke,builtin,Sem.run_bind,Sem.run_pure,Result.andThen_ok,List.map_toArray,List.map_cons,List.map_nil,hs,hx,hr])
  (h w.heap.size _ _ (Nat.le_refl _) hge ⟨AF _,.inr ⟨w.heap.size,_,_,rfl,Nat.zero_le _,heap_alloc_new w.drew _,Nat.zero_le _,hcm,?_,by simp[AL]⟩⟩ ⟨rfl,rfl,rfl,by simp,fun k hk _=>heap_alloc_old w.drew _ hk⟩)
 simp only[Array.size_append,List.size_toArray,List.length_nil,size_zeroCells,hzs,←Nat.add_mul]
 rw[Nat.zero_add,←Nat.add_mul]
 congr 1
 omega
end
end Go.Proofs.YtocgdeefgohdhaaGreat
