/-
  Mem
-/
import Derived.Test.YtjkaicjmfgekjaaGreatDoorPcBase
import Derived.Laws.Strings
set_option linter.all false
namespace Go.Proofs.YtjkaicjmfgekjaaGreatDoor
structure Ae (S:Nat->Prop)(w w':World):Prop where
 os:w'.os=w.os
 tape:w'.tape=w.tape
 output:w'.output=w.output
 size:w.heap.size<=w'.heap.size
 block:∀k,k<w.heap.size->¬S k->w'.heap[k]? =w.heap[k]?
abbrev As (w w':World):Prop:=Ae (λ_=>False) w w'
abbrev one (b:Nat):Nat->Prop:=λk=>k=b
def Ae.refl (S:Nat->Prop)(w:World):Ae S w w:=⟨rfl,rfl,rfl,Aac _,λ_ _ _=>rfl⟩
def Ae.trans {S S':Nat->Prop}{a b c:World}(h:Ae S a b)(k:Ae S' b c)(hs:∀x,x<a.heap.size->S' x->S x):Ae S a c:=
 ⟨k.os.trans h.os,k.tape.trans h.tape,k.output.trans h.output,Aaa h.size k.size,
  λx hx hn=>(k.block x (Aa4 hx h.size) (λe=>hn (hs x hx e))).trans (h.block x hx hn)⟩
def Ae.mono {S S':Nat->Prop}{a b:World}(h:Ae S a b)(hs:∀x,x<a.heap.size->S x->S' x):Ae S' a b:=
 ⟨h.os,h.tape,h.output,h.size,λx hx hn=>h.block x hx (λe=>hn (hs x hx e))⟩
def Ae.ext {S:Nat->Prop}{a b c:World}(h:Ae S a b)(k:As b c):Ae S a c:=h.trans k λ_ _ e=>e.elim
def As.to {S:Nat->Prop}{a b:World}(h:As a b):Ae S a b:=h.mono λ_ _ e=>e.elim
def Ae.new {S S':Nat->Prop}{a b c:World}(h:Ae S a b)(k:Ae S' b c)(hs:∀x,S' x->a.heap.size<=x):Ae S a c:=
 h.trans k λx hx e=>absurd (hs x e) Zo
def As.below {a b:World}(h:As a b):RowKit.Below a.heap.size a b:=⟨h.os,h.tape,h.output,h.size,λk hk=>h.block k hk id⟩
def Ae.drew (S:Nat->Prop)(w:World):Ae S w {w with drawn:=w.drawn+1}:=⟨rfl,rfl,rfl,Aac _,λ_ _ _=>rfl⟩
def As.push (w:World)(o:Obj):As w {w with heap:=w.heap.push o}:=
 ⟨rfl,rfl,rfl,by simp,λk hk _=>by simp[Array.getElem?_push,Nat.ne_of_lt hk]⟩
def Ae.setRow (w:World)(b:Nat)(cs:Array Value):Ae (one b) w (w.setRow b cs):=
 ⟨rfl,rfl,rfl,by simp,λk _ hn=>setRow_other w b k cs hn⟩
def AC (w:World)(b:Nat)(c:List Value)(T:TypeId):Prop:=w.heap[b]? =some (.cells c.toArray T (0,0))
def Cl (w:World)(b o:Nat)(cs:List Value):Prop:=∃c T fr,w.heap[b]? =some (.cells c T fr)/\∀j v,cs[j]? =some v->c[o+j]? =some v
section
variable {w w':World}{S:Nat->Prop}{b o:Nat}{c cs:List Value}{T:TypeId}
def CH {x:Obj}(h:w.heap[b]? =some x):b<w.heap.size:=(Array.getElem?_eq_some_iff.1 h).1
def AC.lt (h:AC w b c T):b<w.heap.size:=CH h
def Cl.lt (h:Cl w b o cs):b<w.heap.size:=by obtain⟨_,_,_,h,_⟩:=h;exact CH h
def AC.keep (h:AC w b c T)(k:Ae S w w')(hn:¬S b):AC w' b c T:=(k.block b h.lt hn).trans h
def Cl.keep (h:Cl w b o cs)(k:Ae S w w')(hn:¬S b):Cl w' b o cs:=by
 have hl:=h.lt;obtain⟨c,T,fr,h1,h2⟩:=h;exact⟨c,T,fr,(k.block b hl hn).trans h1,h2⟩
def AC.ext (h:AC w b c T)(k:As w w'):AC w' b c T:=h.keep k id
def Cl.ext (h:Cl w b o cs)(k:As w w'):Cl w' b o cs:=h.keep k id
def AC.cl (h:AC w b c T):Cl w b 0 c:=⟨c.toArray,T,(0,0),h,λj v hv=>by simpa using hv⟩
def Cl.cell (h:Cl w b o cs){j:Nat}{v:Value}(hv:cs[j]? =some v):w.cell? ⟨b,o+j,none⟩=some v:=by
 obtain⟨c,T,fr,h1,h2⟩:=h;simp only[World.cell?,h1];simpa using h2 j v hv
def Cl.head {v:Value}{r:List Value}(h:Cl w b o (v::r)):w.cell? ⟨b,o,none⟩=some v:=h.cell (j:=0) rfl
def Cl.sub (h:Cl w b o cs){i:Nat}{ds:List Value}(hs:∀j v,ds[j]? =some v->cs[i+j]? =some v):Cl w b (o+i) ds:=by
 obtain⟨c,T,fr,h1,h2⟩:=h;exact⟨c,T,fr,h1,λj v hv=>by have:=h2 (i+j) v (hs j v hv);rwa[<-Abs]at this⟩
def Cl.drop (h:Cl w b o cs)(i m:Nat):Cl w b (o+i) ((cs.drop i).take m):=h.sub λj v hv=>by
 rw[AbF]at hv;split at hv
 ·rw[Abt]at hv;exact hv
 cases hv
def Cl.field (h:Cl w b o cs){i:Nat}{v:Value}(hv:cs[i]? =some v):Cl w b (o+i) [v]:=h.sub λj u hu=>by
 cases j with
 |zero=>simp at hu;subst hu;simpa using hv
 |succ j=>simp at hu
end
class Enc (α:Type) where
 val:α->Value
 size:Nat
 agg:Bool
 shape:∀x,(agg=true->∃cs,val x= .agg cs/\cs.size=size)/\(agg=false->(val x).oneCell'=true/\size=1)
 plain:∀x,∀v∈(val x).cells.toList,v.oneCell'=true
 pos:0<size
def cellsOf {α:Type}[Enc α](x:α):List Value:=(Enc.val x).cells.toList
def AS {α:Type}[Enc α](xs:List α):List Value:=xs.flatMap cellsOf
def FX {v:Value}(h:v.oneCell'=true):v.cells=#[v]:=by cases v<;>simp_all[Value.cells,Value.oneCell']
def AI {α:Type}[Enc α](x:α):(cellsOf x).length=Enc.size α:=by
 unfold cellsOf;cases h:Enc.agg α with
 |true=>obtain⟨cs,hv,hs⟩:=(Enc.shape x).1 h;simp[hv,Value.cells,hs]
 |false=>obtain⟨h1,h2⟩:=(Enc.shape x).2 h;rw[FX h1,h2];rfl
def AH {α:Type}[Enc α](xs:List α):(AS xs).length=xs.length*Enc.size α:=by
 induction xs with
 |nil=>simp[AS]
 |cons x xs ih=>simp only[AS,Aa5,Aab,AI,Aaj]at*;rw[ih,AaY];omega
def Eb {α:Type}[Enc α](xs ys:List α):AS (xs++ys)=AS xs++AS ys:=by simp[AS]
def Cd {α:Type}[Enc α](x:α)(xs:List α):AS (x::xs)=cellsOf x++AS xs:=by simp[AS]
def GT {α : Type} [Enc α] (xs : List α) (i : Nat) (h : i < xs.length) (j : Nat) (v : Value) (hv : (cellsOf xs[i])[j]? = some v) :
    (AS xs)[i * Enc.size α + j]? = some v := by
  induction xs generalizing i with
  | nil => simp at h
  | cons x xs ih =>
    rw [Cd];have hl := AI x;cases i with
    | zero =>
      have hj : j < (cellsOf x).length := by
        have := (List.getElem?_eq_some_iff.1 hv).1;simpa using this
      rw [Nat.zero_mul, Aaq, Ack hj]; simpa using hv
    | succ i =>
      rw [Ab4 (by rw [hl, AaY]; omega), hl, AaY];have e : i * Enc.size α + Enc.size α + j - Enc.size α = i * Enc.size α + j := by omega
      rw [e];exact ih i (by simpa using h) (by simpa using hv)
def HL {α:Type}[Enc α](xs:List α):∀v∈AS xs,v.oneCell'=true:=by
 intro v hv;simp only[AS,List.mem_flatMap,cellsOf]at hv;obtain⟨x,_,hx⟩:=hv;exact Enc.plain x v hx
def Ax {α:Type}[Enc α](w:World)(a:Option Addr)(xs:List α):Prop:=xs=[]\/∃b o,a=some ⟨b,o,none⟩/\Cl w b o (AS xs)
section
variable {α :Type}[Enc α]{w w':World}{S:Nat->Prop}{a:Option Addr}{xs:List α}
def Ax.nil (w:World)(a:Option Addr):Ax w a ([]:List α):= .inl rfl
def Ax.at (h:Ax w a xs){i:Nat}(hi:i<xs.length):∃b o,a=some ⟨b,o,none⟩/\Cl w b (o+i*Enc.size α) (cellsOf xs[i]):=by
 rcases h with rfl|⟨b,o,ha,hc⟩
 ·simp at hi
 exact⟨b,o,ha,hc.sub λj v hv=>GT xs i hi j v hv⟩
def Ax.el (h:Ax w a xs){i:Nat}(hi:i<xs.length):∃b o x,xs[i]? =some x/\a=some ⟨b,o,none⟩/\Cl w b (o+i*Enc.size α) (cellsOf x):=by
 obtain⟨b,o,ha,hc⟩:=h.at hi;exact⟨b,o,xs[i],by simp[hi],ha,hc⟩
def Ax.keep (h:Ax w a xs)(k:Ae S w w')(hn:∀x,a=some x->¬S x.block):Ax w' a xs:=by
 rcases h with h|⟨b,o,ha,hc⟩
 ·exact .inl h
 exact .inr ⟨b,o,ha,hc.keep k (hn _ ha)⟩
def Ax.ext (h:Ax w a xs)(k:As w w'):Ax w' a xs:=h.keep k λ_ _=>id
def He {α:Type}[Enc α]:∀(m:Nat) (xs:List α),AS (xs.take m)=(AS xs).take (m*Enc.size α)
 |0,xs=>by simp[AS]
 |m+1,[]=>by simp[AS]
 |m+1,x::xs=>by rw[AbO,Cd,He m xs,Cd,AaY,Nat.add_comm,<-AI x,Acl]
def Ax.take (h:Ax w a xs)(m:Nat):Ax w a (xs.take m):=by
 rcases h with rfl|⟨b,o,ha,hc⟩
 ·exact .inl Zs
 refine .inr ⟨b,o,ha,?_⟩;rw[He];have:=hc.drop 0 (m*Enc.size α)
 simpa using this
def Ax.nil_of (h:Ax w a xs)(ha:a.isNone=true):xs=[]:=by
 rcases h with h|⟨b,o,h,_⟩
 ·exact h
 rw[h]at ha;cases ha
def Ax.drop (h : Ax w a xs) (i m : Nat) {b o : Nat} (ha : a = some ⟨b, o, none⟩) : Ax w (some ⟨b, o + i * Enc.size α, none⟩) ((xs.drop i).take m) := by
  rcases h with rfl | ⟨b', o', ha', hc⟩
  · exact .inl Zs
  rw [ha] at ha';simp only [Option.some.injEq, Addr.mk.injEq] at ha';obtain ⟨rfl, rfl, _⟩ := ha';refine .inr ⟨b, _, rfl, ?_⟩;have hx := hc.drop (i * Enc.size α) (m * Enc.size α);have e : AS ((xs.drop i).take m) = ((AS xs).drop (i * Enc.size α)).take (m * Enc.size α) := by
    clear hx hc ha;have hd : ∀ (i : Nat) (xs : List α), AS (xs.drop i) = (AS xs).drop (i * Enc.size α) := by
      intro i;induction i with
      | zero => intro xs; simp
      | succ i ih =>
        intro xs;cases xs with
        | nil => simp [AS]
        | cons x xs => rw [AbP, ih, Cd, AaY, Nat.add_comm, <- Aa6]; rw [<- AI x, AbG]
    have ht : ∀ (m : Nat) (xs : List α), AS (xs.take m) = (AS xs).take (m * Enc.size α) := by
      intro m;induction m with
      | zero => intro xs; simp [AS]
      | succ m ih =>
        intro xs;cases xs with
        | nil => simp [AS]
        | cons x xs => rw [AbO, Cd, ih, Cd, AaY, Nat.add_comm, <- AI x, Acl]
    rw [ht, hd]
  rw [e]; exact hx
end
instance : Enc Int where
 val n:= .int .i64 n
 size:=1
 agg:=false
 shape _:=⟨λh=>(by cases h),λ_=>⟨rfl,rfl⟩⟩
 plain _ v hv:=by simp[Value.cells]at hv;subst hv;rfl
 pos:=by decide
instance : Enc ByteArray where
 val s:= .string s
 size:=1
 agg:=false
 shape _:=⟨λh=>(by cases h),λ_=>⟨rfl,rfl⟩⟩
 plain _ v hv:=by simp[Value.cells]at hv;subst hv;rfl
 pos:=by decide
structure SH where
 a:Option Addr
 len:Nat
 cap:Nat
instance : Enc SH where
 val s:= .slice s.a s.len s.cap
 size:=1
 agg:=false
 shape _:=⟨λh=>(by cases h),λ_=>⟨rfl,rfl⟩⟩
 plain _ v hv:=by simp[Value.cells]at hv;subst hv;rfl
 pos:=by decide
structure jq where
 v:Int
instance : Enc jq where
 val s:= .int .u64 s.v
 size:=1
 agg:=false
 shape _:=⟨λh=>(by cases h),λ_=>⟨rfl,rfl⟩⟩
 plain _ v hv:=by simp[Value.cells]at hv;subst hv;rfl
 pos:=by decide
abbrev Enc.struct {α:Type}(cells:α->List Value)(size:Nat)(hs:∀x,(cells x).length=size)(hp:∀x,∀v∈cells x,v.oneCell'=true)(h0:0<size):Enc α where
 val x:= .agg (cells x).toArray
 size:=size
 agg:=true
 shape x:=⟨λ_=>⟨_,rfl,by simpa using hs x⟩,λh=>(by cases h)⟩
 plain x v hv:=hp x v (by simpa[Value.cells]using hv)
 pos:=h0
def Af {α:Type}[Enc α](w:World)(T:TypeId)(a:Option Addr)(cap:Nat)(xs:List α):Prop:=
 w.ownsRow 0 T (Enc.size α) (.slice a xs.length cap) xs.length (AS xs)
section
variable {α :Type}[Enc α]{w w':World}{S:Nat->Prop}{T:TypeId}{a:Option Addr}{cap:Nat}{xs:List α}
def Af.nil (w:World)(T:TypeId):Af w T none 0 ([]:List α):=World.ownsRow_nil w 0 T _
def Af.cases (h:Af w T a cap xs):(a=none/\cap=0/\xs=[])\/
  ∃g cur,a=some ⟨g,0,none⟩/\w.heap[g]? =some (.cells cur T (0,0))/\xs.length<=cap/\cap<=maxLen/\cur.size=cap*Enc.size α/\cur.toList.take (xs.length*Enc.size α)=AS xs:=by
 rcases h.2 with⟨h1,h2⟩|⟨g,c,cur,h1,_,h2,h3,h4,h5,h6⟩
 ·simp only[Value.slice.injEq]at h1;exact .inl ⟨h1.1,h1.2.2,AaM h2⟩
 simp only[Value.slice.injEq,true_and]at h1;obtain⟨rfl,rfl⟩:=h1;exact .inr ⟨g,cur,rfl,h2,h3,h4,h5,h6⟩
def Af.sl (h:Af w T a cap xs):Ax w a xs:=by
 rcases h.cases with⟨_,_,h3⟩|⟨g,cur,h1,h2,_,_,_,h6⟩
 ·exact .inl h3
 refine .inr ⟨g,0,h1,cur,T,(0,0),h2,λj v hv=> ?_⟩;rw[<-h6,AbF]at hv;split at hv
 ·simpa using hv
 cases hv
def Af.le_cap (h:Af w T a cap xs):xs.length<=cap:=by
 rcases h.cases with⟨_,_,rfl⟩|⟨_,_,_,_,h,_⟩
 ·simp
 exact h
def Af.lt (h:Af w T a cap xs){x:Addr}(hx:a=some x):x.block<w.heap.size:=by
 rcases h.cases with⟨h1,_,_⟩|⟨g,cur,h1,h2,_⟩
 ·rw[h1]at hx;cases hx
 rw[h1]at hx;simp only[Option.some.injEq]at hx;subst hx;exact CH h2
def Af.keep (h:Af w T a cap xs)(k:Ae S w w')(hn:∀x,a=some x->¬S x.block):Af w' T a cap xs:=by
 refine⟨h.1,?_⟩;rcases h.2 with h2|⟨g,c,cur,h1,h0,h2,h3⟩
 ·exact .inl h2
 have h1':=h1;simp only[Value.slice.injEq,true_and]at h1';exact .inr ⟨g,c,cur,h1,h0,(k.block g (CH h2) (hn _ h1'.1)).trans h2,h3⟩
def Af.ext (h:Af w T a cap xs)(k:As w w'):Af w' T a cap xs:=h.keep k λ_ _=>id
end
end Go.Proofs.YtjkaicjmfgekjaaGreatDoor
