/-
  Tc
-/
import Derived.Test.YtjkaicjmfgekjaaGreatDoorCards
import Derived.Test.YtjkaicjmfgekjaaGreatDoorTie
import Derived.Test.YtjkaicjmfgekjaaGreatDoorPcNj
import Derived.Deep.DeepHandedRow
import Derived.Deep.DeepWitnessRowRef
import Derived.Lib.LaidIn
import Derived.Lib.LaidTab
import Derived.Stop.LaidErr
set_option linter.all false
set_option maxRecDepth 100000
set_option maxHeartbeats 4000000
namespace Go.Proofs.YtjkaicjmfgekjaaGreatDoor.kvstoreCompacted
open Go.Proofs.Tryz
open Go.ChangeShapes Go.WideShapes Go.ChangeAt Go.RowKit
def star : "*" ++ "errors.errorString" = "*errors.errorString" :=by decide+kernel
def gz {W:World}(h:laidMetH prog Rows.kvstoreCompactedRow.laid W):A5 W:=by
 have h0:laidMet prog Rows.kvstoreCompactedRow.laid W:=h;have h1:=laidMet.tail h0;have h2:=laidMet.tail h1;have h3:=laidMet.tail h2;have h4:=laidMet.tail h3;have g1:prog.globalNamed "strconv.ErrSyntax" =some 2:=by kernel_rfl
 have g2:prog.globalNamed "strconv.ErrRange" =some 3:=by kernel_rfl
 have g4:prog.globalNamed "math/bits.deBruijn64tab" =some 6:=by kernel_rfl
 have ct:prog.cellsOf 372=20:=by kernel_rfl
 have ce:prog.cellsOf 74=1:=by kernel_rfl
 have cx:prog.cellsOf 383=1:=by kernel_rfl
 have cs:prog.cellsOf 9=1:=by kernel_rfl
 have nm:∀u,prog.typeName? 3 u=some "*errors.errorString" ->u=381:=λu h=>typeName_ptr_named (nm:= "errors.errorString") (by rw[star];kernel_rfl) Zk Zd u (by rw[star];exact h)
 obtain⟨a1,s1,v1,-,-,-⟩:=laid_sentinel h4 g1 Zk underlying272 nm underlying381 underlying383 rfl rfl underlying9 cx cs;obtain⟨a2,s2,v2,-,-,-⟩:=laid_sentinel h3 g2 Zk underlying272 nm underlying381 underlying383 rfl rfl underlying9 cx cs;refine⟨Lib.tabIs_of_head gTab Zk underlying372 underlying74 ce ct h2,⟨_,_,(World.var?_cell g1 v1 0).trans rfl⟩,⟨_,_,(World.var?_cell g2 v2 0).trans rfl⟩,?_⟩;obtain⟨ps,⟨g',t',cs',fuel,p,q,hg',ht',hvar,hd,_,_⟩,_⟩:=h1;unfold World.var? at hvar;rw[g4]at hvar;simp only[AbN]at hvar;by_cases c:6<W.heap.size
 ·exact c
 rw[AbT Zo]at hvar;cases hvar
def own :ownKnob prog.godebug=none:=by kernel_rfl
def laid :laidOutB prog=true:=by kernel_rfl
def Wp (H:Type)(enc:TypeId×Value->H)(W:World)(base:Nat)(args:Array Value)(ds gs:List (DataW H))(before:List MemPlace)
  (hval:∀(j:Nat) t v,Tryz.f5.params[j]? =some t->args[j]? =some v->Value.okWide prog W .any base t v)
  (hW:DataW.Whole enc prog Tryz.f5.params.toList Rows.kvstoreCompactedSpec.vars false W args.toList ds gs before) (hk:Rows.uptoSmall H (ds++gs)=true) (hL:laidMetH prog Rows.kvstoreCompactedRow.laid W):
  Calls prog 5 args W λe W'=>∃v,e= .returned v/\Rows.kvstoreCompactedSpec.post enc prog Tryz.f5 false true false false W args v W':=by
 have hW':=hW;obtain⟨p,q,hA0,hV,rfl,hfz,hnd⟩:=hW;have hA:DataW.TrodAll enc prog W 0 (λ_=>true) true Tryz.f5.params.toList args.toList ds p:=hA0;rw[Tryz.params5]at hA hval;obtain⟨v0,vs0,d0,ds0,p0,q0,hargs,rfl,rfl,h0,r0⟩:=trodAll_cons hA;obtain⟨rfl,rfl,rfl⟩:=trodAll_nil r0;obtain rfl:args=#[v0]:=by cases args;simp_all
 obtain⟨rfl,rfl⟩:=trodVars_none hV;clear hA0 hA;have hk0:Rows.uptoBulkAll [d0]<=1048576:=by have h:Rows.uptoBulkAll ([d0]++[])<=1048576:=of_decide_eq_true hk;simpa using h
 simp only[Rows.uptoBulkAll]at hk0;obtain⟨s0,rfl,x0,hl0,hs0,hm0,hq0,hu0⟩:=Pq underlying44 (Hb (α:=gD) underlying44 Zk reads_D9C) (hval 0 44 v0 rfl rfl) h0;obtain⟨a0,len0,c0⟩:=s0;simp only at hl0 hs0 hu0;subst hl0;obtain⟨gK,rfl,hQ0⟩:=gy Zo hq0;have hkl0:(gK.map Dx.c).length=gK.length:=Aad ..;refine(TR a0 gK c0 W (gz hL) hs0 Zo hQ0).mono λe W' he=> ?_;obtain⟨v,rfl,rfl,hext⟩:=he;exact⟨_,rfl,VK rfl laid (by rw[Tryz.params5];intro t ht;simp at ht;rcases ht with rfl<;>exact⟨by kernel_rfl,by decide+kernel⟩) hW' rfl rfl underlying4 hext⟩
noncomputable def Jz (os:Os):World:=
 let N:=(World.settled prog os).heap.size
 let w0:=World.holding prog os ⟨#[.cells #[.string ⟨#[105,110,118,97,108,105,100,32,115,121,110,116,97,120]⟩] 383,.cells #[.string ⟨#[118,97,108,117,101,32,111,117,116,32,111,102,32,114,97,110,103,101]⟩] 383],#[],[]⟩
 let put (h:Array Obj) (g:Nat) (cs:Array Value):Array Obj:=h.modify g fun
  | .cells _ t frozen=> .cells cs t frozen
  |o=>o
 let h0:=put (put w0.heap 2 #[.iface 381 (jp N)]) 3 #[.iface 381 (.pointer (some ⟨N+1,0,none⟩))]
 let h1:=put h0 4 #[.int .u64 1,.int .u64 10,.int .u64 100,.int .u64 1000,.int .u64 10000,.int .u64 100000,.int .u64 1000000,.int .u64 10000000,.int .u64 100000000,.int .u64 1000000000,.int .u64 10000000000,.int .u64 100000000000,.int .u64 1000000000000,.int .u64 10000000000000,.int .u64 100000000000000,.int .u64 1000000000000000,.int .u64 10000000000000000,.int .u64 100000000000000000,.int .u64 1000000000000000000,.int .u64 10000000000000000000]
 let h2:=put h1 5 #[.int .u8 0,.int .u8 1,.int .u8 28,.int .u8 2,.int .u8 29,.int .u8 14,.int .u8 24,.int .u8 3,.int .u8 30,.int .u8 22,.int .u8 20,.int .u8 15,.int .u8 25,.int .u8 17,.int .u8 4,.int .u8 8,.int .u8 31,.int .u8 27,.int .u8 13,.int .u8 23,.int .u8 21,.int .u8 19,.int .u8 16,.int .u8 7,.int .u8 26,.int .u8 12,.int .u8 18,.int .u8 6,.int .u8 11,.int .u8 5,.int .u8 10,.int .u8 9]
 let h3:=put h2 6 #[.int .u8 0,.int .u8 1,.int .u8 56,.int .u8 2,.int .u8 57,.int .u8 49,.int .u8 28,.int .u8 3,.int .u8 61,.int .u8 58,.int .u8 42,.int .u8 50,.int .u8 38,.int .u8 29,.int .u8 17,.int .u8 4,.int .u8 62,.int .u8 47,.int .u8 59,.int .u8 36,.int .u8 45,.int .u8 43,.int .u8 51,.int .u8 22,.int .u8 53,.int .u8 39,.int .u8 33,.int .u8 30,.int .u8 24,.int .u8 18,.int .u8 12,.int .u8 5,.int .u8 63,.int .u8 55,.int .u8 48,.int .u8 27,.int .u8 60,.int .u8 41,.int .u8 37,.int .u8 16,.int .u8 46,.int .u8 35,.int .u8 44,.int .u8 21,.int .u8 52,.int .u8 32,.int .u8 23,.int .u8 11,.int .u8 54,.int .u8 26,.int .u8 40,.int .u8 15,.int .u8 34,.int .u8 20,.int .u8 31,.int .u8 10,.int .u8 25,.int .u8 14,.int .u8 19,.int .u8 9,.int .u8 13,.int .u8 8,.int .u8 7,.int .u8 6]
 {w0 with heap:=h3}
noncomputable abbrev N0 :Nat:=(World.settled prog default).heap.size
def Wq (os:Os):laidMet prog Rows.kvstoreCompactedUptoRow.laid ((Jz os).forCall (λ_ _=>0) ⟨#[],#[.slice none 0 0],[]⟩).memory:=
 (LaidIn.of_run (l:=Rows.kvstoreCompactedUptoRow.laid) [5,6,4,3,N0+1,2,N0] 8 Zk Zk Zk Zk).met
def iU (os:Os){H:Type}(enc:TypeId×Value->H):∃places,DataW.whole enc prog ((Jz os).forCall (λ_ _=>0) ⟨#[],#[.slice none 0 0],[]⟩).memory Tryz.f5.params.toList Rows.kvstoreCompactedSpec.vars false (#[.slice none 0 0]:Array Value).toList 8=some ([.nil],[],places):=
 ⟨[],by kernel_rfl⟩
end Go.Proofs.YtjkaicjmfgekjaaGreatDoor.kvstoreCompacted
