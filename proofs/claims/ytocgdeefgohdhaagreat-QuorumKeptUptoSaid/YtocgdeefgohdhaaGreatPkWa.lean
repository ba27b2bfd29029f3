/-
  Wa
-/
import Derived.Test.YtocgdeefgohdhaaGreatRows
import Derived.Test.YtocgdeefgohdhaaGreatPkMap
import Derived.Test.YtocgdeefgohdhaaGreatPkStr
import Derived.Test.YtocgdeefgohdhaaGreatPkTail
import Derived.Test.YtocgdeefgohdhaaGreatPkIface
import Derived.Test.YtocgdeefgohdhaaGreatPkSeg
import Derived.Test.YtocgdeefgohdhaaGreatPkPlain
import Derived.Test.YtocgdeefgohdhaaGreatPkI
set_option linter.all false
set_option maxRecDepth 100000
set_option maxHeartbeats 4000000
namespace Go.Proofs.YtocgdeefgohdhaaGreat
attribute [local irreducible] RD RS St1 RL RA RT RT1 Run
namespace Wa
end Wa
open Wa
structure DotC where
 node:Int
 life:Int
 count:Int
instance : Enc DotC:=Enc.struct (fun t=>[.int .i64 t.node,.int .i64 t.life,.int .i64 t.count]) 3 (fun _=>rfl) (fun _ v hv=>by simp at hv;rcases hv with rfl|rfl|rfl<;>rfl) (by decide)
theorem DotC.ext' {a b:DotC}(h0:a.node=b.node)(h1:a.life=b.life)(h2:a.count=b.count):a=b:=by cases a;cases b;simp_all
instance : DecidableEq DotC:=fun a b=>if h:a.node=b.node∧a.life=b.life∧a.count=b.count then isTrue (DotC.ext' h.1 h.2.1 h.2.2)else isFalse (fun e=>h (by subst e;exact⟨rfl,rfl,rfl⟩))
theorem eqd_DotC (m:Nat)(a b:DotC)(w:World):(Op.equalIn (m+2) 87 (.agg #[.int .i64 a.node,.int .i64 a.life,.int .i64 a.count]) (.agg #[.int .i64 b.node,.int .i64 b.life,.int .i64 b.count])).run Tryz.prog w= .ok (decide (a=b)) w:=by
 have h:=run_equalIn_struct (P:=Tryz.prog) w (m+1) 87 #[.int .i64 a.node,.int .i64 a.life,.int .i64 a.count] #[.int .i64 b.node,.int .i64 b.life,.int .i64 b.count] Tryz.underlying87 (by kernel_rfl)
 have h2:=(run_eqFields_cons (P:=Tryz.prog) (d:=m+1) (xs:=#[.int .i64 a.node,.int .i64 a.life,.int .i64 a.count]) (ys:=#[.int .i64 b.node,.int .i64 b.life,.int .i64 b.count]) (fd:=(Tryz.prog.fieldsOf 87).toList[0]) (fs:=[(Tryz.prog.fieldsOf 87).toList[1],(Tryz.prog.fieldsOf 87).toList[2]]) (r:=a.node==b.node) (by kernel_rfl) (run_part ty3 rfl) (run_part ty3 rfl) (fun w=>run_equalIn_int w m 3 .i64 .i64 a.node b.node Tryz.underlying3) (run_eqFields_cons (P:=Tryz.prog) (d:=m+1) (xs:=#[.int .i64 a.node,.int .i64 a.life,.int .i64 a.count]) (ys:=#[.int .i64 b.node,.int .i64 b.life,.int .i64 b.count]) (fd:=(Tryz.prog.fieldsOf 87).toList[1]) (fs:=[(Tryz.prog.fieldsOf 87).toList[2]]) (r:=a.life==b.life) (by kernel_rfl) (run_part ty3 rfl) (run_part ty3 rfl) (fun w=>run_equalIn_int w m 3 .i64 .i64 a.life b.life Tryz.underlying3) (run_eqFields_cons (P:=Tryz.prog) (d:=m+1) (xs:=#[.int .i64 a.node,.int .i64 a.life,.int .i64 a.count]) (ys:=#[.int .i64 b.node,.int .i64 b.life,.int .i64 b.count]) (fd:=(Tryz.prog.fieldsOf 87).toList[2]) (fs:=[]) (r:=a.count==b.count) (by kernel_rfl) (run_part ty3 rfl) (run_part ty3 rfl) (fun w=>run_equalIn_int w m 3 .i64 .i64 a.count b.count Tryz.underlying3) (run_eqFields_nil (m+1) _ _)))) w
 refine h.trans (h2.trans ?_)
 congr 1
 rw[Bool.eq_iff_iff]
 simp only[Bool.and_eq_true,beq_iff_eq,and_true,decide_eq_true_eq,bytes_eq]
 exact⟨fun h=>DotC.ext' h.1 h.2.1 h.2.2,fun h=>by subst h;exact⟨rfl,rfl,rfl⟩⟩
theorem eq_DotC (a b:DotC)(w:World):(Op.equalIn 10000 87 (.agg #[.int .i64 a.node,.int .i64 a.life,.int .i64 a.count]) (.agg #[.int .i64 b.node,.int .i64 b.life,.int .i64 b.count])).run Tryz.prog w= .ok (decide (a=b)) w:=eqd_DotC 9998 a b w
structure MarkC where
 node:Int
 life:Int
 count:Int
instance : Enc MarkC:=Enc.struct (fun t=>[.int .i64 t.node,.int .i64 t.life,.int .i64 t.count]) 3 (fun _=>rfl) (fun _ v hv=>by simp at hv;rcases hv with rfl|rfl|rfl<;>rfl) (by decide)
theorem MarkC.ext' {a b:MarkC}(h0:a.node=b.node)(h1:a.life=b.life)(h2:a.count=b.count):a=b:=by cases a;cases b;simp_all
instance : DecidableEq MarkC:=fun a b=>if h:a.node=b.node∧a.life=b.life∧a.count=b.count then isTrue (MarkC.ext' h.1 h.2.1 h.2.2)else isFalse (fun e=>h (by subst e;exact⟨rfl,rfl,rfl⟩))
theorem eqd_MarkC (m:Nat)(a b:MarkC)(w:World):(Op.equalIn (m+2) 112 (.agg #[.int .i64 a.node,.int .i64 a.life,.int .i64 a.count]) (.agg #[.int .i64 b.node,.int .i64 b.life,.int .i64 b.count])).run Tryz.prog w= .ok (decide (a=b)) w:=by
 have h:=run_equalIn_struct (P:=Tryz.prog) w (m+1) 112 #[.int .i64 a.node,.int .i64 a.life,.int .i64 a.count] #[.int .i64 b.node,.int .i64 b.life,.int .i64 b.count] Tryz.underlying112 (by kernel_rfl)
 have h2:=(run_eqFields_cons (P:=Tryz.prog) (d:=m+1) (xs:=#[.int .i64 a.node,.int .i64 a.life,.int .i64 a.count]) (ys:=#[.int .i64 b.node,.int .i64 b.life,.int .i64 b.count]) (fd:=(Tryz.prog.fieldsOf 112).toList[0]) (fs:=[(Tryz.prog.fieldsOf 112).toList[1],(Tryz.prog.fieldsOf 112).toList[2]]) (r:=a.node==b.node) (by kernel_rfl) (run_part ty3 rfl) (run_part ty3 rfl) (fun w=>run_equalIn_int w m 3 .i64 .i64 a.node b.node Tryz.underlying3) (run_eqFields_cons (P:=Tryz.prog) (d:=m+1) (xs:=#[.int .i64 a.node,.int .i64 a.life,.int .i64 a.count]) (ys:=#[.int .i64 b.node,.int .i64 b.life,.int .i64 b.count]) (fd:=(Tryz.prog.fieldsOf 112).toList[1]) (fs:=[(Tryz.prog.fieldsOf 112).toList[2]]) (r:=a.life==b.life) (by kernel_rfl) (run_part ty3 rfl) (run_part ty3 rfl) (fun w=>run_equalIn_int w m 3 .i64 .i64 a.life b.life Tryz.underlying3) (run_eqFields_cons (P:=Tryz.prog) (d:=m+1) (xs:=#[.int .i64 a.node,.int .i64 a.life,.int .i64 a.count]) (ys:=#[.int .i64 b.node,.int .i64 b.life,.int .i64 b.count]) (fd:=(Tryz.prog.fieldsOf 112).toList[2]) (fs:=[]) (r:=a.count==b.count) (by kernel_rfl) (run_part ty3 rfl) (run_part ty3 rfl) (fun w=>run_equalIn_int w m 3 .i64 .i64 a.count b.count Tryz.underlying3) (run_eqFields_nil (m+1) _ _)))) w
 refine h.trans (h2.trans ?_)
 congr 1
 rw[Bool.eq_iff_iff]
 simp only[Bool.and_eq_true,beq_iff_eq,and_true,decide_eq_true_eq,bytes_eq]
 exact⟨fun h=>MarkC.ext' h.1 h.2.1 h.2.2,fun h=>by subst h;exact⟨rfl,rfl,rfl⟩⟩
theorem eq_MarkC (a b:MarkC)(w:World):(Op.equalIn 10000 112 (.agg #[.int .i64 a.node,.int .i64 a.life,.int .i64 a.count]) (.agg #[.int .i64 b.node,.int .i64 b.life,.int .i64 b.count])).run Tryz.prog w= .ok (decide (a=b)) w:=eqd_MarkC 9998 a b w
structure MemberC where
 node:Int
 epoch:Int
 stamp:Int
 status:Int
instance : Enc MemberC:=Enc.struct (fun t=>[.int .i64 t.node,.int .i64 t.epoch,.int .i64 t.stamp,.int .i64 t.status]) 4 (fun _=>rfl) (fun _ v hv=>by simp at hv;rcases hv with rfl|rfl|rfl|rfl<;>rfl) (by decide)
theorem MemberC.ext' {a b:MemberC}(h0:a.node=b.node)(h1:a.epoch=b.epoch)(h2:a.stamp=b.stamp)(h3:a.status=b.status):a=b:=by cases a;cases b;simp_all
instance : DecidableEq MemberC:=fun a b=>if h:a.node=b.node∧a.epoch=b.epoch∧a.stamp=b.stamp∧a.status=b.status then isTrue (MemberC.ext' h.1 h.2.1 h.2.2.1 h.2.2.2)else isFalse (fun e=>h (by subst e;exact⟨rfl,rfl,rfl,rfl⟩))
theorem eqd_MemberC (m:Nat)(a b:MemberC)(w:World):(Op.equalIn (m+2) 131 (.agg #[.int .i64 a.node,.int .i64 a.epoch,.int .i64 a.stamp,.int .i64 a.status]) (.agg #[.int .i64 b.node,.int .i64 b.epoch,.int .i64 b.stamp,.int .i64 b.status])).run Tryz.prog w= .ok (decide (a=b)) w:=by
 have h:=run_equalIn_struct (P:=Tryz.prog) w (m+1) 131 #[.int .i64 a.node,.int .i64 a.epoch,.int .i64 a.stamp,.int .i64 a.status] #[.int .i64 b.node,.int .i64 b.epoch,.int .i64 b.stamp,.int .i64 b.status] Tryz.underlying131 (by kernel_rfl)
 have h2:=(run_eqFields_cons (P:=Tryz.prog) (d:=m+1) (xs:=#[.int .i64 a.node,.int .i64 a.epoch,.int .i64 a.stamp,.int .i64 a.status]) (ys:=#[.int .i64 b.node,.int .i64 b.epoch,.int .i64 b.stamp,.int .i64 b.status]) (fd:=(Tryz.prog.fieldsOf 131).toList[0]) (fs:=[(Tryz.prog.fieldsOf 131).toList[1],(Tryz.prog.fieldsOf 131).toList[2],(Tryz.prog.fieldsOf 131).toList[3]]) (r:=a.node==b.node) (by kernel_rfl) (run_part ty3 rfl) (run_part ty3 rfl) (fun w=>run_equalIn_int w m 3 .i64 .i64 a.node b.node Tryz.underlying3) (run_eqFields_cons (P:=Tryz.prog) (d:=m+1) (xs:=#[.int .i64 a.node,.int .i64 a.epoch,.int .i64 a.stamp,.int .i64 a.status]) (ys:=#[.int .i64 b.node,.int .i64 b.epoch,.int .i64 b.stamp,.int .i64 b.status]) (fd:=(Tryz.prog.fieldsOf 131).toList[1]) (fs:=[(Tryz.prog.fieldsOf 131).toList[2],(Tryz.prog.fieldsOf 131).toList[3]]) (r:=a.epoch==b.epoch) (by kernel_rfl) (run_part ty3 rfl) (run_part ty3 rfl) (fun w=>run_equalIn_int w m 3 .i64 .i64 a.epoch b.epoch Tryz.underlying3) (run_eqFields_cons (P:=Tryz.prog) (d:=m+1) (xs:=#[.int .i64 a.node,.int .i64 a.epoch,.int .i64 a.stamp,.int .i64 a.status]) (ys:=#[.int .i64 b.node,.int .i64 b.epoch,.int .i64 b.stamp,.int .i64 b.status]) (fd:=(Tryz.prog.fieldsOf 131).toList[2]) (fs:=[(Tryz.prog.fieldsOf 131).toList[3]]) (r:=a.stamp==b.stamp) (by kernel_rfl) (run_part ty3 rfl) (run_part ty3 rfl) (fun w=>run_equalIn_int w m 3 .i64 .i64 a.stamp b.stamp Tryz.underlying3) (run_eqFields_cons (P:=Tryz.prog) (d:=m+1) (xs:=#[.int .i64 a.node,.int .i64 a.epoch,.int .i64 a.stamp,.int .i64 a.status]) (ys:=#[.int .i64 b.node,.int .i64 b.epoch,.int .i64 b.stamp,.int .i64 b.status]) (fd:=(Tryz.prog.fieldsOf 131).toList[3]) (fs:=[]) (r:=a.status==b.status) (by kernel_rfl) (run_part ty3 rfl) (run_part ty3 rfl) (fun w=>run_equalIn_int w m 3 .i64 .i64 a.status b.status Tryz.underlying3) (run_eqFields_nil (m+1) _ _))))) w
 refine h.trans (h2.trans ?_)
 congr 1
 rw[Bool.eq_iff_iff]
 simp only[Bool.and_eq_true,beq_iff_eq,and_true,decide_eq_true_eq,bytes_eq]
 exact⟨fun h=>MemberC.ext' h.1 h.2.1 h.2.2.1 h.2.2.2,fun h=>by subst h;exact⟨rfl,rfl,rfl,rfl⟩⟩
theorem eq_MemberC (a b:MemberC)(w:World):(Op.equalIn 10000 131 (.agg #[.int .i64 a.node,.int .i64 a.epoch,.int .i64 a.stamp,.int .i64 a.status]) (.agg #[.int .i64 b.node,.int .i64 b.epoch,.int .i64 b.stamp,.int .i64 b.status])).run Tryz.prog w= .ok (decide (a=b)) w:=eqd_MemberC 9998 a b w
structure PeerC where
 node:Int
 inc:Int
 status:Int
instance : Enc PeerC:=Enc.struct (fun t=>[.int .i64 t.node,.int .i64 t.inc,.int .i64 t.status]) 3 (fun _=>rfl) (fun _ v hv=>by simp at hv;rcases hv with rfl|rfl|rfl<;>rfl) (by decide)
theorem PeerC.ext' {a b:PeerC}(h0:a.node=b.node)(h1:a.inc=b.inc)(h2:a.status=b.status):a=b:=by cases a;cases b;simp_all
instance : DecidableEq PeerC:=fun a b=>if h:a.node=b.node∧a.inc=b.inc∧a.status=b.status then isTrue (PeerC.ext' h.1 h.2.1 h.2.2)else isFalse (fun e=>h (by subst e;exact⟨rfl,rfl,rfl⟩))
theorem eqd_PeerC (m:Nat)(a b:PeerC)(w:World):(Op.equalIn (m+2) 108 (.agg #[.int .i64 a.node,.int .i64 a.inc,.int .i64 a.status]) (.agg #[.int .i64 b.node,.int .i64 b.inc,.int .i64 b.status])).run Tryz.prog w= .ok (decide (a=b)) w:=by
 have h:=run_equalIn_struct (P:=Tryz.prog) w (m+1) 108 #[.int .i64 a.node,.int .i64 a.inc,.int .i64 a.status] #[.int .i64 b.node,.int .i64 b.inc,.int .i64 b.status] Tryz.underlying108 (by kernel_rfl)
 have h2:=(run_eqFields_cons (P:=Tryz.prog) (d:=m+1) (xs:=#[.int .i64 a.node,.int .i64 a.inc,.int .i64 a.status]) (ys:=#[.int .i64 b.node,.int .i64 b.inc,.int .i64 b.status]) (fd:=(Tryz.prog.fieldsOf 108).toList[0]) (fs:=[(Tryz.prog.fieldsOf 108).toList[1],(Tryz.prog.fieldsOf 108).toList[2]]) (r:=a.node==b.node) (by kernel_rfl) (run_part ty3 rfl) (run_part ty3 rfl) (fun w=>run_equalIn_int w m 3 .i64 .i64 a.node b.node Tryz.underlying3) (run_eqFields_cons (P:=Tryz.prog) (d:=m+1) (xs:=#[.int .i64 a.node,.int .i64 a.inc,.int .i64 a.status]) (ys:=#[.int .i64 b.node,.int .i64 b.inc,.int .i64 b.status]) (fd:=(Tryz.prog.fieldsOf 108).toList[1]) (fs:=[(Tryz.prog.fieldsOf 108).toList[2]]) (r:=a.inc==b.inc) (by kernel_rfl) (run_part ty3 rfl) (run_part ty3 rfl) (fun w=>run_equalIn_int w m 3 .i64 .i64 a.inc b.inc Tryz.underlying3) (run_eqFields_cons (P:=Tryz.prog) (d:=m+1) (xs:=#[.int .i64 a.node,.int .i64 a.inc,.int .i64 a.status]) (ys:=#[.int .i64 b.node,.int .i64 b.inc,.int .i64 b.status]) (fd:=(Tryz.prog.fieldsOf 108).toList[2]) (fs:=[]) (r:=a.status==b.status) (by kernel_rfl) (run_part ty3 rfl) (run_part ty3 rfl) (fun w=>run_equalIn_int w m 3 .i64 .i64 a.status b.status Tryz.underlying3) (run_eqFields_nil (m+1) _ _)))) w
 refine h.trans (h2.trans ?_)
 congr 1
 rw[Bool.eq_iff_iff]
 simp only[Bool.and_eq_true,beq_iff_eq,and_true,decide_eq_true_eq,bytes_eq]
 exact⟨fun h=>PeerC.ext' h.1 h.2.1 h.2.2,fun h=>by subst h;exact⟨rfl,rfl,rfl⟩⟩
theorem eq_PeerC (a b:PeerC)(w:World):(Op.equalIn 10000 108 (.agg #[.int .i64 a.node,.int .i64 a.inc,.int .i64 a.status]) (.agg #[.int .i64 b.node,.int .i64 b.inc,.int .i64 b.status])).run Tryz.prog w= .ok (decide (a=b)) w:=eqd_PeerC 9998 a b w
structure SumC where
 place:Int
 key:ByteArray
 hash:Int
instance : Enc SumC:=Enc.struct (fun t=>[.int .i64 t.place,.string t.key,.int .u64 t.hash]) 3 (fun _=>rfl) (fun _ v hv=>by simp at hv;rcases hv with rfl|rfl|rfl<;>rfl) (by decide)
theorem SumC.ext' {a b:SumC}(h0:a.place=b.place)(h1:a.key=b.key)(h2:a.hash=b.hash):a=b:=by cases a;cases b;simp_all
instance : DecidableEq SumC:=fun a b=>if h:a.place=b.place∧a.key=b.key∧a.hash=b.hash then isTrue (SumC.ext' h.1 h.2.1 h.2.2)else isFalse (fun e=>h (by subst e;exact⟨rfl,rfl,rfl⟩))
theorem eqd_SumC (m:Nat)(a b:SumC)(w:World):(Op.equalIn (m+2) 111 (.agg #[.int .i64 a.place,.string a.key,.int .u64 a.hash]) (.agg #[.int .i64 b.place,.string b.key,.int .u64 b.hash])).run Tryz.prog w= .ok (decide (a=b)) w:=by
 have h:=run_equalIn_struct (P:=Tryz.prog) w (m+1) 111 #[.int .i64 a.place,.string a.key,.int .u64 a.hash] #[.int .i64 b.place,.string b.key,.int .u64 b.hash] Tryz.underlying111 (by kernel_rfl)
 have h2:=(run_eqFields_cons (P:=Tryz.prog) (d:=m+1) (xs:=#[.int .i64 a.place,.string a.key,.int .u64 a.hash]) (ys:=#[.int .i64 b.place,.string b.key,.int .u64 b.hash]) (fd:=(Tryz.prog.fieldsOf 111).toList[0]) (fs:=[(Tryz.prog.fieldsOf 111).toList[1],(Tryz.prog.fieldsOf 111).toList[2]]) (r:=a.place==b.place) (by kernel_rfl) (run_part ty3 rfl) (run_part ty3 rfl) (fun w=>run_equalIn_int w m 3 .i64 .i64 a.place b.place Tryz.underlying3) (run_eqFields_cons (P:=Tryz.prog) (d:=m+1) (xs:=#[.int .i64 a.place,.string a.key,.int .u64 a.hash]) (ys:=#[.int .i64 b.place,.string b.key,.int .u64 b.hash]) (fd:=(Tryz.prog.fieldsOf 111).toList[1]) (fs:=[(Tryz.prog.fieldsOf 111).toList[2]]) (r:=a.key.toList==b.key.toList) (by kernel_rfl) (run_part ty9 rfl) (run_part ty9 rfl) (fun w=>run_equalIn_string w m 9 a.key b.key Tryz.underlying9) (run_eqFields_cons (P:=Tryz.prog) (d:=m+1) (xs:=#[.int .i64 a.place,.string a.key,.int .u64 a.hash]) (ys:=#[.int .i64 b.place,.string b.key,.int .u64 b.hash]) (fd:=(Tryz.prog.fieldsOf 111).toList[2]) (fs:=[]) (r:=a.hash==b.hash) (by kernel_rfl) (run_part ty22 rfl) (run_part ty22 rfl) (fun w=>run_equalIn_int w m 22 .u64 .u64 a.hash b.hash Tryz.underlying22) (run_eqFields_nil (m+1) _ _)))) w
 refine h.trans (h2.trans ?_)
 congr 1
 rw[Bool.eq_iff_iff]
 simp only[Bool.and_eq_true,beq_iff_eq,and_true,decide_eq_true_eq,bytes_eq]
 exact⟨fun h=>SumC.ext' h.1 h.2.1 h.2.2,fun h=>by subst h;exact⟨rfl,rfl,rfl⟩⟩
theorem eq_SumC (a b:SumC)(w:World):(Op.equalIn 10000 111 (.agg #[.int .i64 a.place,.string a.key,.int .u64 a.hash]) (.agg #[.int .i64 b.place,.string b.key,.int .u64 b.hash])).run Tryz.prog w= .ok (decide (a=b)) w:=eqd_SumC 9998 a b w
structure EntryC where
 item:ByteArray
 dot:DotC
 qty:Int
 price:Int
instance : Enc EntryC:=Enc.struct (fun t=>[.string t.item,.int .i64 t.dot.node,.int .i64 t.dot.life,.int .i64 t.dot.count,.int .i64 t.qty,.int .u64 t.price]) 6 (fun _=>rfl) (fun _ v hv=>by simp at hv;rcases hv with rfl|rfl|rfl|rfl|rfl|rfl<;>rfl) (by decide)
theorem EntryC.ext' {a b:EntryC}(h0:a.item=b.item)(h1:a.dot=b.dot)(h2:a.qty=b.qty)(h3:a.price=b.price):a=b:=by cases a;cases b;simp_all
instance : DecidableEq EntryC:=fun a b=>if h:a.item=b.item∧a.dot=b.dot∧a.qty=b.qty∧a.price=b.price then isTrue (EntryC.ext' h.1 h.2.1 h.2.2.1 h.2.2.2)else isFalse (fun e=>h (by subst e;exact⟨rfl,rfl,rfl,rfl⟩))
theorem eqd_EntryC (m:Nat)(a b:EntryC)(w:World):(Op.equalIn (m+3) 89 (.agg #[.string a.item,.int .i64 a.dot.node,.int .i64 a.dot.life,.int .i64 a.dot.count,.int .i64 a.qty,.int .u64 a.price]) (.agg #[.string b.item,.int .i64 b.dot.node,.int .i64 b.dot.life,.int .i64 b.dot.count,.int .i64 b.qty,.int .u64 b.price])).run Tryz.prog w= .ok (decide (a=b)) w:=by
 have h:=run_equalIn_struct (P:=Tryz.prog) w (m+2) 89 #[.string a.item,.int .i64 a.dot.node,.int .i64 a.dot.life,.int .i64 a.dot.count,.int .i64 a.qty,.int .u64 a.price] #[.string b.item,.int .i64 b.dot.node,.int .i64 b.dot.life,.int .i64 b.dot.count,.int .i64 b.qty,.int .u64 b.price] Tryz.underlying89 (by kernel_rfl)
 have h2:=(run_eqFields_cons (P:=Tryz.prog) (d:=m+2) (xs:=#[.string a.item,.int .i64 a.dot.node,.int .i64 a.dot.life,.int .i64 a.dot.count,.int .i64 a.qty,.int .u64 a.price]) (ys:=#[.string b.item,.int .i64 b.dot.node,.int .i64 b.dot.life,.int .i64 b.dot.count,.int .i64 b.qty,.int .u64 b.price]) (fd:=(Tryz.prog.fieldsOf 89).toList[0]) (fs:=[(Tryz.prog.fieldsOf 89).toList[1],(Tryz.prog.fieldsOf 89).toList[2],(Tryz.prog.fieldsOf 89).toList[3]]) (r:=a.item.toList==b.item.toList) (by kernel_rfl) (run_part ty9 rfl) (run_part ty9 rfl) (fun w=>run_equalIn_string w (m+1) 9 a.item b.item Tryz.underlying9) (run_eqFields_cons (P:=Tryz.prog) (d:=m+2) (xs:=#[.string a.item,.int .i64 a.dot.node,.int .i64 a.dot.life,.int .i64 a.dot.count,.int .i64 a.qty,.int .u64 a.price]) (ys:=#[.string b.item,.int .i64 b.dot.node,.int .i64 b.dot.life,.int .i64 b.dot.count,.int .i64 b.qty,.int .u64 b.price]) (fd:=(Tryz.prog.fieldsOf 89).toList[1]) (fs:=[(Tryz.prog.fieldsOf 89).toList[2],(Tryz.prog.fieldsOf 89).toList[3]]) (r:=decide (a.dot=b.dot)) (by kernel_rfl) (run_parts ty87 rfl) (run_parts ty87 rfl) (fun w=>eqd_DotC m a.dot b.dot w) (run_eqFields_cons (P:=Tryz.prog) (d:=m+2) (xs:=#[.string a.item,.int .i64 a.dot.node,.int .i64 a.dot.life,.int .i64 a.dot.count,.int .i64 a.qty,.int .u64 a.price]) (ys:=#[.string b.item,.int .i64 b.dot.node,.int .i64 b.dot.life,.int .i64 b.dot.count,.int .i64 b.qty,.int .u64 b.price]) (fd:=(Tryz.prog.fieldsOf 89).toList[2]) (fs:=[(Tryz.prog.fieldsOf 89).toList[3]]) (r:=a.qty==b.qty) (by kernel_rfl) (run_part ty3 rfl) (run_part ty3 rfl) (fun w=>run_equalIn_int w (m+1) 3 .i64 .i64 a.qty b.qty Tryz.underlying3) (run_eqFields_cons (P:=Tryz.prog) (d:=m+2) (xs:=#[.string a.item,.int .i64 a.dot.node,.int .i64 a.dot.life,.int .i64 a.dot.count,.int .i64 a.qty,.int .u64 a.price]) (ys:=#[.string b.item,.int .i64 b.dot.node,.int .i64 b.dot.life,.int .i64 b.dot.count,.int .i64 b.qty,.int .u64 b.price]) (fd:=(Tryz.prog.fieldsOf 89).toList[3]) (fs:=[]) (r:=a.price==b.price) (by kernel_rfl) (run_part ty22 rfl) (run_part ty22 rfl) (fun w=>run_equalIn_int w (m+1) 22 .u64 .u64 a.price b.price Tryz.underlying22) (run_eqFields_nil (m+2) _ _))))) w
 refine h.trans (h2.trans ?_)
 congr 1
 rw[Bool.eq_iff_iff]
 simp only[Bool.and_eq_true,beq_iff_eq,and_true,decide_eq_true_eq,bytes_eq]
 exact⟨fun h=>EntryC.ext' h.1 h.2.1 h.2.2.1 h.2.2.2,fun h=>by subst h;exact⟨rfl,rfl,rfl,rfl⟩⟩
theorem eq_EntryC (a b:EntryC)(w:World):(Op.equalIn 10000 89 (.agg #[.string a.item,.int .i64 a.dot.node,.int .i64 a.dot.life,.int .i64 a.dot.count,.int .i64 a.qty,.int .u64 a.price]) (.agg #[.string b.item,.int .i64 b.dot.node,.int .i64 b.dot.life,.int .i64 b.dot.count,.int .i64 b.qty,.int .u64 b.price])).run Tryz.prog w= .ok (decide (a=b)) w:=eqd_EntryC 9997 a b w
structure CtxC where
 marks:SH
 cloud:SH
structure CartC where
 entries:SH
 ctx:CtxC
structure RingC where
 parts:Int
 copies:Int
 spots:Int
 members:SH
structure MsgC where
 kind:Int
 frm:Int
 to:Int
 req:Int
 key:ByteArray
 cart:CartC
 owner:Int
 part:Int
 n:Int
 ring:RingC
 peers:SH
 sums:SH
instance : Enc MsgC:=Enc.struct (fun t=>[.int .i64 t.kind,.int .i64 t.frm,.int .i64 t.to,.int .i64 t.req,.string t.key,.slice t.cart.entries.a t.cart.entries.len t.cart.entries.cap,.slice t.cart.ctx.marks.a t.cart.ctx.marks.len t.cart.ctx.marks.cap,.slice t.cart.ctx.cloud.a t.cart.ctx.cloud.len t.cart.ctx.cloud.cap,.int .i64 t.owner,.int .i64 t.part,.int .i64 t.n,.int .i64 t.ring.parts,.int .i64 t.ring.copies,.int .i64 t.ring.spots,.slice t.ring.members.a t.ring.members.len t.ring.members.cap,.slice t.peers.a t.peers.len t.peers.cap,.slice t.sums.a t.sums.len t.sums.cap]) 17 (fun _=>rfl) (fun _ v hv=>by simp at hv;rcases hv with rfl|rfl|rfl|rfl|rfl|rfl|rfl|rfl|rfl|rfl|rfl|rfl|rfl|rfl|rfl|rfl|rfl<;>rfl) (by decide)
structure MV where
 kind:Int
 frm:Int
 to:Int
 req:Int
 key:ByteArray
 owner:Int
 part:Int
 n:Int
 parts:Int
 copies:Int
 spots:Int
 ent:List EntryC
 mrk:List MarkC
 cl:List DotC
 mem:List MemberC
 pe:List PeerC
 su:List SumC
theorem MV.ext' {a b:MV}(h0:a.kind=b.kind)(h1:a.frm=b.frm)(h2:a.to=b.to)(h3:a.req=b.req)(h4:a.key=b.key)(h5:a.owner=b.owner)(h6:a.part=b.part)(h7:a.n=b.n)(h8:a.parts=b.parts)(h9:a.copies=b.copies)(h10:a.spots=b.spots)(h11:a.ent=b.ent)(h12:a.mrk=b.mrk)(h13:a.cl=b.cl)(h14:a.mem=b.mem)(h15:a.pe=b.pe)(h16:a.su=b.su):a=b:=by cases a;cases b;simp_all
theorem MV.iff {a b:MV}:a=b↔a.kind=b.kind∧a.frm=b.frm∧a.to=b.to∧a.req=b.req∧a.key=b.key∧a.owner=b.owner∧a.part=b.part∧a.n=b.n∧a.parts=b.parts∧a.copies=b.copies∧a.spots=b.spots∧a.ent=b.ent∧a.mrk=b.mrk∧a.cl=b.cl∧a.mem=b.mem∧a.pe=b.pe∧a.su=b.su:=⟨fun e=>by subst e;exact⟨rfl,rfl,rfl,rfl,rfl,rfl,rfl,rfl,rfl,rfl,rfl,rfl,rfl,rfl,rfl,rfl,rfl⟩,fun h=>MV.ext' h.1 h.2.1 h.2.2.1 h.2.2.2.1 h.2.2.2.2.1 h.2.2.2.2.2.1 h.2.2.2.2.2.2.1 h.2.2.2.2.2.2.2.1 h.2.2.2.2.2.2.2.2.1 h.2.2.2.2.2.2.2.2.2.1 h.2.2.2.2.2.2.2.2.2.2.1 h.2.2.2.2.2.2.2.2.2.2.2.1 h.2.2.2.2.2.2.2.2.2.2.2.2.1 h.2.2.2.2.2.2.2.2.2.2.2.2.2.1 h.2.2.2.2.2.2.2.2.2.2.2.2.2.2.1 h.2.2.2.2.2.2.2.2.2.2.2.2.2.2.2.1 h.2.2.2.2.2.2.2.2.2.2.2.2.2.2.2.2⟩
instance : DecidableEq MV:=fun a b=>if h:a.kind=b.kind∧a.frm=b.frm∧a.to=b.to∧a.req=b.req∧a.key=b.key∧a.owner=b.owner∧a.part=b.part∧a.n=b.n∧a.parts=b.parts∧a.copies=b.copies∧a.spots=b.spots∧a.ent=b.ent∧a.mrk=b.mrk∧a.cl=b.cl∧a.mem=b.mem∧a.pe=b.pe∧a.su=b.su then isTrue (MV.iff.2 h)else isFalse (fun e=>h (MV.iff.1 e))
structure Six where
 ea:Option Addr
 ec:Nat
 ma:Option Addr
 mc:Nat
 ca:Option Addr
 cc:Nat
 ba:Option Addr
 bc:Nat
 pa:Option Addr
 pc:Nat
 sa:Option Addr
 sc:Nat
abbrev mkC (v:MV)(s:Six):MsgC:=⟨v.kind,v.frm,v.to,v.req,v.key,⟨⟨s.ea,v.ent.length,s.ec⟩,⟨⟨s.ma,v.mrk.length,s.mc⟩,⟨s.ca,v.cl.length,s.cc⟩⟩⟩,v.owner,v.part,v.n,⟨v.parts,v.copies,v.spots,⟨s.ba,v.mem.length,s.bc⟩⟩,⟨s.pa,v.pe.length,s.pc⟩,⟨s.sa,v.su.length,s.sc⟩⟩
structure SixR (w:World)(s:Six)(v:MV):Prop where
 ent:SlOf w s.ea v.ent
 mrk:SlOf w s.ma v.mrk
 cl:SlOf w s.ca v.cl
 mem:SlOf w s.ba v.mem
 pe:SlOf w s.pa v.pe
 su:SlOf w s.sa v.su
structure SixO (w:World)(s:Six)(v:MV):Prop where
 ent:OwnSl w 89 s.ea s.ec v.ent
 mrk:OwnSl w 112 s.ma s.mc v.mrk
 cl:OwnSl w 87 s.ca s.cc v.cl
 mem:OwnSl w 131 s.ba s.bc v.mem
 pe:OwnSl w 108 s.pa s.pc v.pe
 su:OwnSl w 111 s.sa s.sc v.su
def rdS (s:Six)(v:MV):Nat→Prop:=fun q=>(v.ent≠ []∧own s.ea q)∨(v.mrk≠ []∧own s.ma q)∨(v.cl≠ []∧own s.ca q)∨(v.mem≠ []∧own s.ba q)∨(v.pe≠ []∧own s.pa q)∨(v.su≠ []∧own s.sa q)
def ownS (s:Six):Nat→Prop:=fun q=>own s.ea q∨own s.ma q∨own s.ca q∨own s.ba q∨own s.pa q∨own s.sa q
def SixA (s:Six):Prop:=[own s.ea,own s.ma,own s.ca,own s.ba,own s.pa,own s.sa].Pairwise (fun f g=>∀q,f q→¬g q)
def nilS :Six:=⟨none,0,none,0,none,0,none,0,none,0,none,0⟩
def nilV :MV:=⟨0,0,0,0,⟨#[]⟩,0,0,0,0,0,0,[],[],[],[],[],[]⟩
structure VOk (v:MV):Prop where
 ent:v.ent.length≤4294967295
 mrk:v.mrk.length≤4294967295
 cl:v.cl.length≤4294967295
 mem:v.mem.length≤4294967295
 pe:v.pe.length≤4294967295
 su:v.su.length≤4294967295
section
variable {w w':World}{s:Six}{v:MV}{S:Nat→Prop}
theorem sl_lt {α:Type}[Enc α]{a:Option Addr}{xs:List α}(h:SlOf w a xs)(hn:xs≠ []){q:Nat}(hq:own a q):q<w.heap.size:=by
 obtain⟨x,hx,rfl⟩:=hq
 rcases h with rfl|⟨b,o,ha,hc⟩
 ·exact absurd rfl hn
 ·rw[hx]at ha;cases ha;exact hc.lt
theorem SixR.own_lt (h:SixR w s v):∀q,rdS s v q→q<w.heap.size:=by
 rintro q (⟨h1,h2⟩|⟨h1,h2⟩|⟨h1,h2⟩|⟨h1,h2⟩|⟨h1,h2⟩|⟨h1,h2⟩)
 ·exact sl_lt h.ent h1 h2
 ·exact sl_lt h.mrk h1 h2
 ·exact sl_lt h.cl h1 h2
 ·exact sl_lt h.mem h1 h2
 ·exact sl_lt h.pe h1 h2
 ·exact sl_lt h.su h1 h2
theorem SixR.keepO (h:SixR w s v)(k:Keeps S w w')(hn:∀q,rdS s v q→¬S q):SixR w' s v:=
 ⟨h.ent.keepN k (fun x hx he=>hn x.block (Or.inl ⟨he,x,hx,rfl⟩)),h.mrk.keepN k (fun x hx he=>hn x.block (Or.inr (Or.inl ⟨he,x,hx,rfl⟩))),h.cl.keepN k (fun x hx he=>hn x.block (Or.inr (Or.inr (Or.inl ⟨he,x,hx,rfl⟩)))),h.mem.keepN k (fun x hx he=>hn x.block (Or.inr (Or.inr (Or.inr (Or.inl ⟨he,x,hx,rfl⟩))))),h.pe.keepN k (fun x hx he=>hn x.block (Or.inr (Or.inr (Or.inr (Or.inr (Or.inl ⟨he,x,hx,rfl⟩)))))),h.su.keepN k (fun x hx he=>hn x.block (Or.inr (Or.inr (Or.inr (Or.inr (Or.inr (⟨he,x,hx,rfl⟩)))))))⟩
theorem SixR.ext (h:SixR w s v)(k:Ext w w'):SixR w' s v:=h.keepO k fun _ _=>id
theorem SixO.own_lt (h:SixO w s v):∀q,ownS s q→q<w.heap.size:=by
 rintro q (hq|hq|hq|hq|hq|hq)
 ·exact h.ent.own_lt q hq
 ·exact h.mrk.own_lt q hq
 ·exact h.cl.own_lt q hq
 ·exact h.mem.own_lt q hq
 ·exact h.pe.own_lt q hq
 ·exact h.su.own_lt q hq
theorem SixO.keepO (h:SixO w s v)(k:Keeps S w w')(hn:∀q,ownS s q→¬S q):SixO w' s v:=
 ⟨h.ent.keepO k (fun q hq=>hn q (Or.inl hq)),h.mrk.keepO k (fun q hq=>hn q (Or.inr (Or.inl hq))),h.cl.keepO k (fun q hq=>hn q (Or.inr (Or.inr (Or.inl hq)))),h.mem.keepO k (fun q hq=>hn q (Or.inr (Or.inr (Or.inr (Or.inl hq))))),h.pe.keepO k (fun q hq=>hn q (Or.inr (Or.inr (Or.inr (Or.inr (Or.inl hq)))))),h.su.keepO k (fun q hq=>hn q (Or.inr (Or.inr (Or.inr (Or.inr (Or.inr (hq)))))))⟩
theorem SixO.ext (h:SixO w s v)(k:Ext w w'):SixO w' s v:=h.keepO k fun _ _=>id
theorem SixO.r (h:SixO w s v):SixR w s v:=⟨h.ent.sl,h.mrk.sl,h.cl.sl,h.mem.sl,h.pe.sl,h.su.sl⟩
theorem nil_R :SixR w nilS nilV:=⟨SlOf.nil _ _,SlOf.nil _ _,SlOf.nil _ _,SlOf.nil _ _,SlOf.nil _ _,SlOf.nil _ _⟩
theorem nil_ok :VOk nilV:=⟨by decide,by decide,by decide,by decide,by decide,by decide⟩
end
end Go.Proofs.YtocgdeefgohdhaaGreat
