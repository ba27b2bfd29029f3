/-
  Ops
-/
import Derived.Test.YtjkaicjmfgekjaaGreatDoorPcMem
set_option linter.all false
namespace Go.Proofs.YtjkaicjmfgekjaaGreatDoor
def aggDesc :TypeDesc->Bool
 | .struct _| .array _ _=>true
 |_=>false
class Ty (P:Program)(t:TypeId)(size bytes:outParam Nat)(z:outParam Value)(agg:outParam Bool):Prop where
 info:∃i,P.info? t=some i/\i.zero=some z/\i.size=size/\i.bytes=bytes
 und:∃d,P.underlying t=some d/\aggDesc d=agg
theorem X4 {P:Program}{t:TypeId}{size bytes:Nat}{z:Value}{agg:Bool}(h:(P.info? t).map (λi=>(i.zero,i.size,i.bytes))=some (some z,size,bytes))
  (h2:(P.underlying t).map aggDesc=some agg):Ty P t size bytes z agg:=by
 refine⟨?_,?_⟩
 ·cases hi:P.info? t with
  |none=>simp[hi]at h
  |some i=>simp[hi]at h;exact⟨i,rfl,h⟩
 cases hd:P.underlying t with
 |none=>simp[hd]at h2
 |some d=>simp[hd]at h2;exact⟨d,rfl,h2⟩
section
variable {P :Program}{n:FN}{ρ:Bd}{w:World}
variable {dst :Option Nat}{ty:TypeId}{pos:String}{af:Array Edge}{g:Option (Nat×Bool)}
def Ty.run_size {t size bytes z agg}(h:Ty P t size bytes z agg):(sizeOf t).run P w= .ok size w:=by
 obtain⟨i,hi,_,hs,_⟩:=h.info;simp[sizeOf,typeInfo,hi,hs]
def Ty.run_zero {t size bytes z agg}(h:Ty P t size bytes z agg):(zeroValue t).run P w= .ok z w:=by
 obtain⟨i,hi,hz,_⟩:=h.info;simp[zeroValue,typeInfo,hi,hz]
def Ty.run_isAgg {t size bytes z agg}(h:Ty P t size bytes z agg):(isAgg t).run P w= .ok agg w:=by
 obtain⟨d,hd,hg⟩:=h.und;subst hg;cases d<;>simp[isAgg,run_underlying hd,aggDesc]
def X (P:Program)(n:FN)(ρ:Bd)(o:Oper)(w:World)(v:Value)(w':World):Prop:=(execOp (rd n ρ) o).run P w= .ok (.value v) w'
def D5 {x:Operand}{v:Value}(h:rd n ρ x=v):X P n ρ ⟨dst,.move x,ty,pos,af,g⟩ w v w:=by simp[X,execOp,h]
def Cy {x:Operand}{v:Value}(h:rd n ρ x=v):X P n ρ ⟨dst,.assign x,ty,pos,af,g⟩ w v w:=by simp[X,execOp,h]
def D4 {x:Operand}{kd:IntKind}{m:Int}(h:rd n ρ x= .int kd m):X P n ρ ⟨dst,.move x,ty,pos,af,g⟩ w (.int kd m) w:=D5 h
def Fd {x:Operand}{kd:IntKind}{m:Int}(h:rd n ρ x= .int kd m):X P n ρ ⟨dst,.assign x,ty,pos,af,g⟩ w (.int kd m) w:=Cy h
def Gt {x:Operand}{b:Bool}(h:rd n ρ x= .bool b):X P n ρ ⟨dst,.move x,ty,pos,af,g⟩ w (.bool b) w:=D5 h
def L6 {x:Operand}{b:Bool}(h:rd n ρ x= .bool b):X P n ρ ⟨dst,.assign x,ty,pos,af,g⟩ w (.bool b) w:=Cy h
def J0 {x:Operand}{s:ByteArray}(h:rd n ρ x= .string s):X P n ρ ⟨dst,.move x,ty,pos,af,g⟩ w (.string s) w:=D5 h
def L7 {x:Operand}{s:ByteArray}(h:rd n ρ x= .string s):X P n ρ ⟨dst,.assign x,ty,pos,af,g⟩ w (.string s) w:=Cy h
def FY {x:Operand}{a:Option Addr}{l c:Nat}(h:rd n ρ x= .slice a l c):X P n ρ ⟨dst,.move x,ty,pos,af,g⟩ w (.slice a l c) w:=D5 h
def Kt {x:Operand}{a:Option Addr}{l c:Nat}(h:rd n ρ x= .slice a l c):X P n ρ ⟨dst,.assign x,ty,pos,af,g⟩ w (.slice a l c) w:=Cy h
def FG {x:Operand}{a:Option Addr}(h:rd n ρ x= .pointer a):X P n ρ ⟨dst,.move x,ty,pos,af,g⟩ w (.pointer a) w:=D5 h
def L8 {x:Operand}{a:Option Addr}(h:rd n ρ x= .pointer a):X P n ρ ⟨dst,.assign x,ty,pos,af,g⟩ w (.pointer a) w:=Cy h
def Q3 {x:Operand}{cs:Array Value}(h:rd n ρ x= .agg cs):X P n ρ ⟨dst,.move x,ty,pos,af,g⟩ w (.agg cs) w:=D5 h
def L9 {x:Operand}{cs:Array Value}(h:rd n ρ x= .agg cs):X P n ρ ⟨dst,.assign x,ty,pos,af,g⟩ w (.agg cs) w:=Cy h
def Q4 {x:Operand}{fn:Fn}{a c:Array Value}(h:rd n ρ x= .func fn a c):X P n ρ ⟨dst,.move x,ty,pos,af,g⟩ w (.func fn a c) w:=D5 h
def Ma {x:Operand}{fn:Fn}{a c:Array Value}(h:rd n ρ x= .func fn a c):X P n ρ ⟨dst,.assign x,ty,pos,af,g⟩ w (.func fn a c) w:=Cy h
def Q5 {x:Operand}{cs:Array Value}(h:rd n ρ x= .tuple cs):X P n ρ ⟨dst,.move x,ty,pos,af,g⟩ w (.tuple cs) w:=D5 h
def Mb {x:Operand}{cs:Array Value}(h:rd n ρ x= .tuple cs):X P n ρ ⟨dst,.assign x,ty,pos,af,g⟩ w (.tuple cs) w:=Cy h
def Oa {x:Operand}{t:TypeId}{v:Value}(h:rd n ρ x= .iface t v):X P n ρ ⟨dst,.move x,ty,pos,af,g⟩ w (.iface t v) w:=D5 h
def Ku {x:Operand}{t:TypeId}{v:Value}(h:rd n ρ x= .iface t v):X P n ρ ⟨dst,.assign x,ty,pos,af,g⟩ w (.iface t v) w:=Cy h
def Q6 {x:Operand}{r:Option Nat}(h:rd n ρ x= .map r):X P n ρ ⟨dst,.move x,ty,pos,af,g⟩ w (.map r) w:=D5 h
def Mc {x:Operand}{r:Option Nat}(h:rd n ρ x= .map r):X P n ρ ⟨dst,.assign x,ty,pos,af,g⟩ w (.map r) w:=Cy h
def T3 {c x y:Operand}{b:Bool}{u v:Value}(hc:rd n ρ c= .bool b)(hx:rd n ρ x=u)(hy:rd n ρ y=v):
  X P n ρ ⟨dst,.pick c x y,ty,pos,af,g⟩ w (if b then u else v) w:=by simp[X,execOp,hc,hx,hy,asBool]
def Ec {x:Operand}{vs:Array Value}{i:Nat}{v:Value}(h:rd n ρ x= .tuple vs)(hv:vs[i]? =some v):X P n ρ ⟨dst,.extract x i,ty,pos,af,g⟩ w v w:=by
 simp[X,execOp,h,Instr.extract,hv]
def Kv {x:Operand}{a:Addr}(h:rd n ρ x= .pointer (some a)):X P n ρ ⟨dst,.nilCheck x,ty,pos,af,g⟩ w (.pointer (some a)) w:=by simp[X,execOp,h]
section
variable {t t':TypeId}{x y:Operand}{kd:IntKind}{a b:Int}
def HF (hx:rd n ρ x= .int kd a)(hy:rd n ρ y= .int kd b):X P n ρ ⟨dst,.binOp .eql t x y t',ty,pos,af,g⟩ w (.bool (a==b)) w:=by simp[X,execOp,hx,hy,eqGuard,binOp,Op.intCmp]
def HG (hx:rd n ρ x= .int kd a)(hy:rd n ρ y= .int kd b):X P n ρ ⟨dst,.binOp .neq t x y t',ty,pos,af,g⟩ w (.bool (a !=b)) w:=by simp[X,execOp,hx,hy,eqGuard,binOp,Op.intCmp]
def FZ (hx:rd n ρ x= .int kd a)(hy:rd n ρ y= .int kd b):X P n ρ ⟨dst,.binOp .lss t x y t',ty,pos,af,g⟩ w (.bool (decide (a<b))) w:=by simp[X,execOp,hx,hy,eqGuard,binOp,Op.intCmp]
def Md (hx:rd n ρ x= .int kd a)(hy:rd n ρ y= .int kd b):X P n ρ ⟨dst,.binOp .leq t x y t',ty,pos,af,g⟩ w (.bool (decide (a<=b))) w:=by simp[X,execOp,hx,hy,eqGuard,binOp,Op.intCmp]
def GU (hx:rd n ρ x= .int kd a)(hy:rd n ρ y= .int kd b):X P n ρ ⟨dst,.binOp .gtr t x y t',ty,pos,af,g⟩ w (.bool (decide (b<a))) w:=by simp[X,execOp,hx,hy,eqGuard,binOp,Op.intCmp]
def Ob (hx:rd n ρ x= .int kd a)(hy:rd n ρ y= .int kd b):X P n ρ ⟨dst,.binOp .geq t x y t',ty,pos,af,g⟩ w (.bool (decide (b<=a))) w:=by simp[X,execOp,hx,hy,eqGuard,binOp,Op.intCmp]
def Yx (hx:rd n ρ x= .int kd a)(hy:rd n ρ y= .int kd b):X P n ρ ⟨dst,.binOp .add t x y t',ty,pos,af,g⟩ w (.int kd (kd.wrap (a+b))) w:=by simp[X,execOp,hx,hy,eqGuard,binOp,Op.intArith]
def Yy (hx:rd n ρ x= .int kd a)(hy:rd n ρ y= .int kd b):X P n ρ ⟨dst,.binOp .sub t x y t',ty,pos,af,g⟩ w (.int kd (kd.wrap (a-b))) w:=by simp[X,execOp,hx,hy,eqGuard,binOp,Op.intArith]
def Yz (hx:rd n ρ x= .int kd a)(hy:rd n ρ y= .int kd b):X P n ρ ⟨dst,.binOp .mul t x y t',ty,pos,af,g⟩ w (.int kd (kd.wrap (a*b))) w:=by simp[X,execOp,hx,hy,eqGuard,binOp,Op.intArith]
def Ni (m:Int)(h0: -9223372036854775808<=m)(h1:m<=9223372036854775807):IntKind.i64.wrap m=m:=by
 have e1:IntKind.i64.bits=64:=rfl;have e2:IntKind.i64.signed=true:=rfl;simp only[IntKind.wrap,e1,e2,Bool.true_and];split
 ·rename_i h;simp at h;omega
 rename_i h;simp at h;omega
def Av (hx:rd n ρ x= .int .i64 a)(hy:rd n ρ y= .int .i64 b)(h0: -9223372036854775808<=a+b)(h1:a+b<=9223372036854775807):
  X P n ρ ⟨dst,.binOp .add t x y t',ty,pos,af,g⟩ w (.int .i64 (a+b)) w:=by have:=Yx (P:=P) (w:=w) (t:=t) (t':=t') (dst:=dst) (ty:=ty) (pos:=pos) (af:=af) (g:=g) hx hy;rwa[Ni _ h0 h1]at this
def B8 (hx:rd n ρ x= .int .i64 a)(hy:rd n ρ y= .int .i64 b)(h0: -9223372036854775808<=a-b)(h1:a-b<=9223372036854775807):
  X P n ρ ⟨dst,.binOp .sub t x y t',ty,pos,af,g⟩ w (.int .i64 (a-b)) w:=by have:=Yy (P:=P) (w:=w) (t:=t) (t':=t') (dst:=dst) (ty:=ty) (pos:=pos) (af:=af) (g:=g) hx hy;rwa[Ni _ h0 h1]at this
def Q7 (hx:rd n ρ x= .int .i64 a)(hy:rd n ρ y= .int .i64 b)(h0: -9223372036854775808<=a*b)(h1:a*b<=9223372036854775807):
  X P n ρ ⟨dst,.binOp .mul t x y t',ty,pos,af,g⟩ w (.int .i64 (a*b)) w:=by have:=Yz (P:=P) (w:=w) (t:=t) (t':=t') (dst:=dst) (ty:=ty) (pos:=pos) (af:=af) (g:=g) hx hy;rwa[Ni _ h0 h1]at this
def gE (hx:rd n ρ x= .int kd a)(hy:rd n ρ y= .int kd b)(hb:b≠0):X P n ρ ⟨dst,.binOp .rem t x y t',ty,pos,af,g⟩ w (.int kd (a.tmod b)) w:=by
 simp[X,execOp,hx,hy,eqGuard,binOp,Op.intDiv,hb]
def Ia {d:TypeId}{kx:IntKind}(hx:rd n ρ x= .int kx a)(hs:∃u,P.underlying t=some u)(hd:P.underlying d=some (.int kd)):
  X P n ρ ⟨dst,.convert t d x,ty,pos,af,g⟩ w (.int kd (kd.wrap a)) w:=by
 obtain⟨u,hu⟩:=hs;cases u<;>simp[X,execOp,hx,convert,run_underlying hu,run_underlying hd,Conv.intToInt]
end
def Bp {t:TypeId}{x:Operand}{b:Bool}(hx:rd n ρ x= .bool b):X P n ρ ⟨dst,.unOp .not t x,ty,pos,af,g⟩ w (.bool (!b)) w:=by simp[X,execOp,hx,Op.unary]
def Fi (x y:ByteArray):(x.toList==y.toList)=decide (x=y):=by
 rw[ByteArray.toList_eq,ByteArray.toList_eq];by_cases h:x=y
 ·subst h;simp
 simp only[h,decide_false,beq_eq_false_iff_ne];intro e;exact h (ByteArray.ext (Array.toList_inj.1 e))
def T4 {t t':TypeId}{x y:Operand}{a b:ByteArray}(hx:rd n ρ x= .string a)(hy:rd n ρ y= .string b):X P n ρ ⟨dst,.binOp .eql t x y t',ty,pos,af,g⟩ w (.bool (decide (a=b))) w:=by
 simp[X,execOp,hx,hy,eqGuard,binOp,Op.stringOp,Fi]
def Q8 {t t':TypeId}{x y:Operand}{a b:ByteArray}(hx:rd n ρ x= .string a)(hy:rd n ρ y= .string b):X P n ρ ⟨dst,.binOp .neq t x y t',ty,pos,af,g⟩ w (.bool (!decide (a=b))) w:=by
 simp[X,execOp,hx,hy,eqGuard,binOp,Op.stringOp,Fi]
def Hf {t:TypeId}{x y:Value}{d:TypeDesc}{r:Bool}(h:∀m,(Op.equalIn (m+1) t x y).run P w= .ok r w)(_:P.underlying t=some d):(Op.equal t x y).run P w= .ok r w:=h 9999
def Oc {t e:TypeId}{a:Option Addr}{l c:Nat}(ht:P.underlying t=some (.slice e))(m:Nat):(Op.equalIn (m+1) t (.slice a l c) (.slice none 0 0)).run P w= .ok a.isNone w:=by
 rw[Op.equalIn];cases a<;>simp[run_underlying ht]
def Ib {t e:TypeId}{a:Option Addr}(ht:P.underlying t=some (.pointer e))(m:Nat):(Op.equalIn (m+1) t (.pointer a) (.pointer none)).run P w= .ok a.isNone w:=by
 rw[Op.equalIn];cases a<;>simp[run_underlying ht]
def J1 {t t' e:TypeId}{x y:Operand}{a:Option Addr}{l c:Nat}(ht:P.underlying t=some (.slice e))(hx:rd n ρ x= .slice a l c)(hy:rd n ρ y= .slice none 0 0):
  X P n ρ ⟨dst,.binOp .eql t x y t',ty,pos,af,g⟩ w (.bool a.isNone) w:=by
 simp[X,execOp,hx,hy,eqGuard,binOp,Hf (Oc ht) ht]
def DB {t t' e:TypeId}{x y:Operand}{a:Option Addr}(ht:P.underlying t=some (.pointer e))(hx:rd n ρ x= .pointer a)(hy:rd n ρ y= .pointer none):
  X P n ρ ⟨dst,.binOp .eql t x y t',ty,pos,af,g⟩ w (.bool a.isNone) w:=by
 simp[X,execOp,hx,hy,eqGuard,binOp,Hf (Ib ht) ht]
def EW {t t' e:TypeId}{x y:Operand}{a:Option Addr}(ht:P.underlying t=some (.pointer e))(hx:rd n ρ x= .pointer a)(hy:rd n ρ y= .pointer none):
  X P n ρ ⟨dst,.binOp .neq t x y t',ty,pos,af,g⟩ w (.bool a.isSome) w:=by
 simp[X,execOp,hx,hy,eqGuard,binOp,Hf (Ib ht) ht]
def CM {t e:TypeId}{x:Operand}{a:Option Addr}{l c:Nat}(ht:P.underlying t=some (.slice e))(hx:rd n ρ x= .slice a l c):
  X P n ρ ⟨dst,.call {callee:= .builtin .len,args:=#[x],argTypes:=#[t]},ty,pos,af,g⟩ w (.int .i64 (l:Int)) w:=by
 simp[X,execOp,resolve,invoke,builtin,Builtin.len_,run_underlying ht,hx,goInt]
def DT {t:TypeId}{x:Operand}{s:ByteArray}(ht:P.underlying t=some .string)(hx:rd n ρ x= .string s):
  X P n ρ ⟨dst,.call {callee:= .builtin .len,args:=#[x],argTypes:=#[t]},ty,pos,af,g⟩ w (.int .i64 (s.size:Int)) w:=by
 simp[X,execOp,resolve,invoke,builtin,Builtin.len_,run_underlying ht,hx,goInt]
def X5 {t e:TypeId}{x ix:Operand}{b o l c size bytes:Nat}{z:Value}{agg:Bool}{kd:IntKind}{i:Int}(ht:P.underlying t=some (.slice e))(he:Ty P e size bytes z agg)
  (hx:rd n ρ x= .slice (some ⟨b,o,none⟩) l c) (hi:rd n ρ ix= .int kd i) (h0:0<=i) (h1:i<(l:Int)):
  X P n ρ ⟨dst,.indexAddr t x ix,ty,pos,af,g⟩ w (.pointer (some ⟨b,o+i.toNat*size,none⟩)) w:=by
 simp[X,execOp,hx,hi,Instr.indexAt,asIntOf,run_underlying ht,h0,h1,he.run_size,Addr.add_lit]
def T5 {t:TypeId}{x ix:Operand}{s:ByteArray}{kd:IntKind}{i:Int}(ht:P.underlying t=some .string)(hx:rd n ρ x= .string s)(hi:rd n ρ ix= .int kd i)(h0:0<=i)(h1:i.toNat<s.size):
  X P n ρ ⟨dst,.index t x ix,ty,pos,af,g⟩ w (.int .u8 (s[i.toNat].toNat:Int)) w:=by
 simp[X,execOp,hx,hi,Instr.index,asIntOf,run_underlying ht,h0,h1]
def JB {t:TypeId}{x:Operand}{b o o' i size bytes:Nat}{z:Value}{agg:Bool}{fs:Array Field}{fd:Field}(ht:P.underlying t=some (.struct fs))(hf:fs[i]? =some fd)
  (he:Ty P fd.type size bytes z agg) (h0:(size==0)=false) (hx:rd n ρ x= .pointer (some ⟨b,o,none⟩)) (ho:o+fd.offset=o'):
  X P n ρ ⟨dst,.fieldAddr t x i,ty,pos,af,g⟩ w (.pointer (some ⟨b,o',none⟩)) w:=by
 subst ho;have h0':size≠0:=by simpa using h0
 simp[X,execOp,hx,Instr.fieldAt,Instr.sureAddr,run_underlying ht,hf,fieldPlace,he.run_size,h0',Addr.add_lit]
def YA {t:TypeId}{x:Operand}{i size bytes:Nat}{z:Value}{fs:Array Field}{fd:Field}{cs:Array Value}{v:Value}(ht:P.underlying t=some (.struct fs))(hf:fs[i]? =some fd)
  (he:Ty P fd.type size bytes z false) (hx:rd n ρ x= .agg cs) (hv:cs[fd.offset]? =some v):
  X P n ρ ⟨dst,.field t x i,ty,pos,af,g⟩ w v w:=by
 simp[X,execOp,hx,Instr.field,asAgg,run_underlying ht,hf,part,he.run_isAgg,hv]
def DC {t : TypeId} {b o size bytes : Nat} {z v : Value} {agg : Bool} (he : Ty P t size bytes z agg)
    (hv : (agg = true -> ∃ cs, v = .agg cs /\ cs.size = size) /\ (agg = false -> v.oneCell' = true)) (hc : Cl w b o v.cells.toList) : (loadVar t ⟨b, o, none⟩).run P w = .ok v w := by
  cases agg with
  | false =>
    have h1 := hv.2 rfl;rw [FX h1] at hc;have := hc.head;simp [loadVar, he.run_isAgg, this]
  | true =>
    obtain ⟨cs, rfl, hs⟩ := hv.1 rfl;have hl := run_loadCells_list (P := P) w ⟨b, o, none⟩ cs.toList (λj u hu => by rw [Addr.add_lit]; exact hc.cell hu);simp only [AaA, hs, Array.toArray_toList] at hl;simp [loadVar, he.run_isAgg, he.run_size, hl]
def HM {t:TypeId}{x:Operand}{b o size bytes:Nat}{z v:Value}(he:Ty P t size bytes z false)(hx:rd n ρ x= .pointer (some ⟨b,o,none⟩))(hv:v.oneCell'=true)(hc:Cl w b o [v]):
  X P n ρ ⟨dst,.load t x,ty,pos,af,g⟩ w v w:=by
 have h:=DC (w:=w) (b:=b) (o:=o) he ⟨λe=>(by cases e),λ_=>hv⟩ (by rw[FX hv];exact hc);simp[X,execOp,hx,Instr.loadAt,Instr.sureAddr,h]
def Q9 {t:TypeId}{x:Operand}{b o size bytes:Nat}{z:Value}{cs:Array Value}(he:Ty P t size bytes z true)(hx:rd n ρ x= .pointer (some ⟨b,o,none⟩))(hs:cs.size=size)(hc:Cl w b o cs.toList):
  X P n ρ ⟨dst,.load t x,ty,pos,af,g⟩ w (.agg cs) w:=by
 have h:=DC (w:=w) (b:=b) (o:=o) (v:= .agg cs) he ⟨λ_=>⟨cs,rfl,hs⟩,λe=>(by cases e)⟩ hc;simp[X,execOp,hx,Instr.loadAt,Instr.sureAddr,h]
def gF {α:Type}[Enc α]{t:TypeId}{x:Operand}{b o bytes:Nat}{z:Value}{y:α}(he:Ty P t (Enc.size α) bytes z (Enc.agg α))(hx:rd n ρ x= .pointer (some ⟨b,o,none⟩))(hc:Cl w b o (cellsOf y)):
  X P n ρ ⟨dst,.load t x,ty,pos,af,g⟩ w (Enc.val y) w:=by
 have h:=DC (w:=w) (b:=b) (o:=o) (v:=Enc.val y) he ⟨(Enc.shape y).1,λe=>((Enc.shape y).2 e).1⟩ hc;simp[X,execOp,hx,Instr.loadAt,Instr.sureAddr,h]
def B9 {α:Type}[Enc α]{t:TypeId}{x:Operand}{b o bytes:Nat}{z v:Value}{y:α}(he:Ty P t (Enc.size α) bytes z (Enc.agg α))(hx:rd n ρ x= .pointer (some ⟨b,o,none⟩))(hc:Cl w b o (cellsOf y))(hv:Enc.val y=v):
  X P n ρ ⟨dst,.load t x,ty,pos,af,g⟩ w v w:=by subst hv;exact gF he hx hc
def Dm {fn:Fn}{first cap:List Operand}{a c:List Value}(h1:first.map (rd n ρ)=a)(h2:cap.map (rd n ρ)=c):X P n ρ ⟨dst,.makeFunc fn first.toArray cap.toArray,ty,pos,af,g⟩ w (.func fn a.toArray c.toArray) w:=by
 simp[X,execOp,Instr.makeFunc,h1,h2]
def X6 {e:TypeId}{x:Operand}{v:Value}(hx:rd n ρ x=v):
  X P n ρ ⟨dst,.box e x,ty,pos,af,g⟩ w (.pointer (some ⟨w.heap.size,0,none⟩)) {w with heap:=w.heap.push (.cells v.cells e)}:=by
 simp[X,execOp,hx,Instr.box,newVar,newRow]
def Ra {e:TypeId}{size bytes:Nat}{z:Value}{agg:Bool}(he:Ty P e size bytes z agg):
  X P n ρ ⟨dst,.alloc e,ty,pos,af,g⟩ w (.pointer (some ⟨w.heap.size,0,none⟩)) {w with heap:=w.heap.push (.cells z.cells e)}:=by
 simp[X,execOp,Instr.alloc,he.run_zero,newVar,newRow]
def F0 (w:World)(c:Array Value)(e:TypeId):AC {w with heap:=w.heap.push (.cells c e)} w.heap.size c.toList e:=by simp[AC]
def Gu {t:TypeId}{b o size bytes:Nat}{z v:Value}{agg:Bool}{c:List Value}{T:TypeId}(he:Ty P t size bytes z agg)(hs:v.cells.size=size)
  (h1:∀u∈v.cells.toList,u.oneCell'=true) (hb:AC w b c T) (hfit:o+size<=c.length):
  (storeVar t ⟨b,o,none⟩ v).run P w= .ok () (w.setRow b (c.take o++v.cells.toList++c.drop (o+size)).toArray):=by
 have h:=run_storeCells_at P b o T v.cells.toList 0 c.toArray w hb (by simpa[hs]using hfit) h1;simp only[Nat.add_zero,AaA,hs]at h;simp[storeVar,he.run_size,hs,h]
def HN {b:Nat}{c:List Value}{T:TypeId}(hb:AC w b c T)(d:List Value):AC (w.setRow b d.toArray) b d T:=setRow_heap w b _ _ _ _ hb
end
section
variable {P :Program}{f:FuncId}{n:FN}{R:Ending->World->Prop}{k:List Item}{ρ:Bd}{w:World}
variable {dst :Option Nat}{ty:TypeId}{pos:String}{af:Array Edge}{K:Bd->World->Prop}
def AB.box {e:TypeId}{x:Operand}{v:Value}(hx:rd n ρ x=v)
  (h:∀b w',w.heap.size<=b->AC w' b v.cells.toList e->As w w'->K (Bj ρ dst (.pointer (some ⟨b,0,none⟩))) w'):
  AB P f n R k ⟨dst,.box e x,ty,pos,af,none⟩ ρ w K:=
 AB.val (X6 hx) (h _ _ (Aac _) (F0 w _ e) (As.push w _))
def AB.alloc {e:TypeId}{size bytes:Nat}{z:Value}{agg:Bool}(he:Ty P e size bytes z agg)
  (h:∀b w',w.heap.size<=b->AC w' b z.cells.toList e->As w w'->K (Bj ρ dst (.pointer (some ⟨b,0,none⟩))) w'):
  AB P f n R k ⟨dst,.alloc e,ty,pos,af,none⟩ ρ w K:=
 AB.val (Ra he) (h _ _ (Aac _) (F0 w _ e) (As.push w _))
def AB.store {t:TypeId}{x y:Operand}{b o size bytes:Nat}{z v:Value}{agg:Bool}{c:List Value}{T:TypeId}(he:Ty P t size bytes z agg)(hx:rd n ρ x= .pointer (some ⟨b,o,none⟩))(hy:rd n ρ y=v)
  (hs:v.cells.size=size) (h1:∀u∈v.cells.toList,u.oneCell'=true) (hb:AC w b c T) (hfit:o+size<=c.length)
  (h:∀w',AC w' b (c.take o++v.cells.toList++c.drop (o+size)) T->Ae (one b) w w'->K ρ w'):
  AB P f n R k ⟨none,.store t x y,ty,pos,af,none⟩ ρ w K:=by
 have hr:=Gu (P:=P) he hs h1 hb hfit;refine AB.skip (w':=w.setRow b (c.take o++v.cells.toList++c.drop (o+size)).toArray) ?_ (h _ (HN hb _) (Ae.setRow w b _));simp[execOp,hx,hy,Instr.storeAt,Instr.sureAddr,hr]
def AB.call {g:FuncId}{ol:List Operand}{ts:Array TypeId}{vals:List Value}{Φ:Value->World->Prop}(he:DQ P g)(ha:ol.map (rd n ρ)=vals)
  (hc:Calls P g vals.toArray w (AU Φ)) (h:∀v w',Φ v w'->K (Bj ρ dst v) w'):
  AB P f n R k ⟨dst,.call {callee:= .value (.func g),args:=ol.toArray,argTypes:=ts},ty,pos,af,none⟩ ρ w K:=by
 refine AB.enter (g:=g) (vals:=vals.toArray) ?_ hc h;simp[execOp,resolve,rd,Deferred.ofValue,invoke,ha,he vals.toArray w]
def AB.callV {g:FuncId}{fv:Operand}{ol:List Operand}{ts:Array TypeId}{first cap vals:List Value}{Φ:Value->World->Prop}(he:DQ P g)(hf:rd n ρ fv= .func (.func g) first.toArray cap.toArray)
  (ha:first++ol.map (rd n ρ)++cap=vals)
  (hc:Calls P g vals.toArray w (AU Φ)) (h:∀v w',Φ v w'->K (Bj ρ dst v) w'):
  AB P f n R k ⟨dst,.call {callee:= .value fv,args:=ol.toArray,argTypes:=ts},ty,pos,af,none⟩ ρ w K:=by
 refine AB.enter (g:=g) (vals:=vals.toArray) ?_ hc h;rw[<-ha];simp[execOp,resolve,hf,Deferred.ofValue,invoke];exact he _ w
end
end Go.Proofs.YtjkaicjmfgekjaaGreatDoor
