/-
  Wa
-/
import Derived.Test.YtocgdeefgohdhaaGreatRows
import Derived.Test.YtocgdeefgohdhaaGreatPqMap
import Derived.Test.YtocgdeefgohdhaaGreatPqStr
import Derived.Test.YtocgdeefgohdhaaGreatPqTail
import Derived.Test.YtocgdeefgohdhaaGreatPqIface
import Derived.Test.YtocgdeefgohdhaaGreatPqSeg
import Derived.Test.YtocgdeefgohdhaaGreatPqPlain
import Derived.Test.YtocgdeefgohdhaaGreatPqI
set_option linter.all false
set_option maxRecDepth 100000
set_option maxHeartbeats 4000000
namespace Go.Proofs.YtocgdeefgohdhaaGreat
open Go.Proofs.Tryz
attribute [local irreducible] RD RS AD RL RA RT BH Al
namespace Wa
open Go.Proofs.Tryz
end Wa
open Wa
structure Ah where
 node:Int
 life:Int
 count:Int
instance : Enc Ah:=Enc.struct (fun t=>[.int .i64 t.node,.int .i64 t.life,.int .i64 t.count]) 3 (fun _=>rfl) (fun _ v hv=>by simp at hv;rcases hv with rfl|rfl|rfl<;>rfl) Zd
theorem Ah.ext' {a b:Ah}(h0:a.node=b.node)(h1:a.life=b.life)(h2:a.count=b.count):a=b:=by cases a;cases b;simp_all
instance : DecidableEq Ah:=fun a b=>if h:a.node=b.node∧a.life=b.life∧a.count=b.count then isTrue (Ah.ext' h.1 h.2.1 h.2.2)else isFalse (fun e=>h (by subst e;exact⟨rfl,rfl,rfl⟩))
theorem Kr (m:Nat)(a b:Ah)(w:World):(Op.equalIn (m+2) 87 (.agg #[.int .i64 a.node,.int .i64 a.life,.int .i64 a.count]) (.agg #[.int .i64 b.node,.int .i64 b.life,.int .i64 b.count])).run prog w= .ok (decide (a=b)) w:=by
 have h:=run_equalIn_struct (P:=prog) w (m+1) 87 #[.int .i64 a.node,.int .i64 a.life,.int .i64 a.count] #[.int .i64 b.node,.int .i64 b.life,.int .i64 b.count] underlying87 Zk
 have h2:=(Ax (P:=prog) (d:=m+1) (xs:=#[.int .i64 a.node,.int .i64 a.life,.int .i64 a.count]) (ys:=#[.int .i64 b.node,.int .i64 b.life,.int .i64 b.count]) (fd:=(prog.fieldsOf 87).toList[0]) (fs:=[(prog.fieldsOf 87).toList[1],(prog.fieldsOf 87).toList[2]]) (r:=a.node==b.node) Zk (AH ty3 rfl) (AH ty3 rfl) (fun w=>run_equalIn_int w m 3 .i64 .i64 a.node b.node underlying3) (Ax (P:=prog) (d:=m+1) (xs:=#[.int .i64 a.node,.int .i64 a.life,.int .i64 a.count]) (ys:=#[.int .i64 b.node,.int .i64 b.life,.int .i64 b.count]) (fd:=(prog.fieldsOf 87).toList[1]) (fs:=[(prog.fieldsOf 87).toList[2]]) (r:=a.life==b.life) Zk (AH ty3 rfl) (AH ty3 rfl) (fun w=>run_equalIn_int w m 3 .i64 .i64 a.life b.life underlying3) (Ax (P:=prog) (d:=m+1) (xs:=#[.int .i64 a.node,.int .i64 a.life,.int .i64 a.count]) (ys:=#[.int .i64 b.node,.int .i64 b.life,.int .i64 b.count]) (fd:=(prog.fieldsOf 87).toList[2]) (fs:=[]) (r:=a.count==b.count) Zk (AH ty3 rfl) (AH ty3 rfl) (fun w=>run_equalIn_int w m 3 .i64 .i64 a.count b.count underlying3) (BC (m+1) _ _)))) w
 refine h.trans (h2.trans ?_)
 congr 1
 rw[Bool.eq_iff_iff]
 simp only[Bool.and_eq_true,beq_iff_eq,and_true,decide_eq_true_eq,CW]
 exact⟨fun h=>Ah.ext' h.1 h.2.1 h.2.2,fun h=>by subst h;exact⟨rfl,rfl,rfl⟩⟩
theorem CF (a b:Ah)(w:World):(Op.equalIn 10000 87 (.agg #[.int .i64 a.node,.int .i64 a.life,.int .i64 a.count]) (.agg #[.int .i64 b.node,.int .i64 b.life,.int .i64 b.count])).run prog w= .ok (decide (a=b)) w:=Kr 9998 a b w
structure Ac where
 node:Int
 life:Int
 count:Int
instance : Enc Ac:=Enc.struct (fun t=>[.int .i64 t.node,.int .i64 t.life,.int .i64 t.count]) 3 (fun _=>rfl) (fun _ v hv=>by simp at hv;rcases hv with rfl|rfl|rfl<;>rfl) Zd
theorem Ac.ext' {a b:Ac}(h0:a.node=b.node)(h1:a.life=b.life)(h2:a.count=b.count):a=b:=by cases a;cases b;simp_all
instance : DecidableEq Ac:=fun a b=>if h:a.node=b.node∧a.life=b.life∧a.count=b.count then isTrue (Ac.ext' h.1 h.2.1 h.2.2)else isFalse (fun e=>h (by subst e;exact⟨rfl,rfl,rfl⟩))
theorem Nr (m:Nat)(a b:Ac)(w:World):(Op.equalIn (m+2) 112 (.agg #[.int .i64 a.node,.int .i64 a.life,.int .i64 a.count]) (.agg #[.int .i64 b.node,.int .i64 b.life,.int .i64 b.count])).run prog w= .ok (decide (a=b)) w:=by
 have h:=run_equalIn_struct (P:=prog) w (m+1) 112 #[.int .i64 a.node,.int .i64 a.life,.int .i64 a.count] #[.int .i64 b.node,.int .i64 b.life,.int .i64 b.count] underlying112 Zk
 have h2:=(Ax (P:=prog) (d:=m+1) (xs:=#[.int .i64 a.node,.int .i64 a.life,.int .i64 a.count]) (ys:=#[.int .i64 b.node,.int .i64 b.life,.int .i64 b.count]) (fd:=(prog.fieldsOf 112).toList[0]) (fs:=[(prog.fieldsOf 112).toList[1],(prog.fieldsOf 112).toList[2]]) (r:=a.node==b.node) Zk (AH ty3 rfl) (AH ty3 rfl) (fun w=>run_equalIn_int w m 3 .i64 .i64 a.node b.node underlying3) (Ax (P:=prog) (d:=m+1) (xs:=#[.int .i64 a.node,.int .i64 a.life,.int .i64 a.count]) (ys:=#[.int .i64 b.node,.int .i64 b.life,.int .i64 b.count]) (fd:=(prog.fieldsOf 112).toList[1]) (fs:=[(prog.fieldsOf 112).toList[2]]) (r:=a.life==b.life) Zk (AH ty3 rfl) (AH ty3 rfl) (fun w=>run_equalIn_int w m 3 .i64 .i64 a.life b.life underlying3) (Ax (P:=prog) (d:=m+1) (xs:=#[.int .i64 a.node,.int .i64 a.life,.int .i64 a.count]) (ys:=#[.int .i64 b.node,.int .i64 b.life,.int .i64 b.count]) (fd:=(prog.fieldsOf 112).toList[2]) (fs:=[]) (r:=a.count==b.count) Zk (AH ty3 rfl) (AH ty3 rfl) (fun w=>run_equalIn_int w m 3 .i64 .i64 a.count b.count underlying3) (BC (m+1) _ _)))) w
 refine h.trans (h2.trans ?_)
 congr 1
 rw[Bool.eq_iff_iff]
 simp only[Bool.and_eq_true,beq_iff_eq,and_true,decide_eq_true_eq,CW]
 exact⟨fun h=>Ac.ext' h.1 h.2.1 h.2.2,fun h=>by subst h;exact⟨rfl,rfl,rfl⟩⟩
theorem Ks (a b:Ac)(w:World):(Op.equalIn 10000 112 (.agg #[.int .i64 a.node,.int .i64 a.life,.int .i64 a.count]) (.agg #[.int .i64 b.node,.int .i64 b.life,.int .i64 b.count])).run prog w= .ok (decide (a=b)) w:=Nr 9998 a b w
structure BW where
 node:Int
 epoch:Int
 stamp:Int
 status:Int
instance : Enc BW:=Enc.struct (fun t=>[.int .i64 t.node,.int .i64 t.epoch,.int .i64 t.stamp,.int .i64 t.status]) 4 (fun _=>rfl) (fun _ v hv=>by simp at hv;rcases hv with rfl|rfl|rfl|rfl<;>rfl) Zd
theorem BW.ext' {a b:BW}(h0:a.node=b.node)(h1:a.epoch=b.epoch)(h2:a.stamp=b.stamp)(h3:a.status=b.status):a=b:=by cases a;cases b;simp_all
instance : DecidableEq BW:=fun a b=>if h:a.node=b.node∧a.epoch=b.epoch∧a.stamp=b.stamp∧a.status=b.status then isTrue (BW.ext' h.1 h.2.1 h.2.2.1 h.2.2.2)else isFalse (fun e=>h (by subst e;exact⟨rfl,rfl,rfl,rfl⟩))
theorem Kt (m:Nat)(a b:BW)(w:World):(Op.equalIn (m+2) 131 (.agg #[.int .i64 a.node,.int .i64 a.epoch,.int .i64 a.stamp,.int .i64 a.status]) (.agg #[.int .i64 b.node,.int .i64 b.epoch,.int .i64 b.stamp,.int .i64 b.status])).run prog w= .ok (decide (a=b)) w:=by
 have h:=run_equalIn_struct (P:=prog) w (m+1) 131 #[.int .i64 a.node,.int .i64 a.epoch,.int .i64 a.stamp,.int .i64 a.status] #[.int .i64 b.node,.int .i64 b.epoch,.int .i64 b.stamp,.int .i64 b.status] underlying131 Zk
 have h2:=(Ax (P:=prog) (d:=m+1) (xs:=#[.int .i64 a.node,.int .i64 a.epoch,.int .i64 a.stamp,.int .i64 a.status]) (ys:=#[.int .i64 b.node,.int .i64 b.epoch,.int .i64 b.stamp,.int .i64 b.status]) (fd:=(prog.fieldsOf 131).toList[0]) (fs:=[(prog.fieldsOf 131).toList[1],(prog.fieldsOf 131).toList[2],(prog.fieldsOf 131).toList[3]]) (r:=a.node==b.node) Zk (AH ty3 rfl) (AH ty3 rfl) (fun w=>run_equalIn_int w m 3 .i64 .i64 a.node b.node underlying3) (Ax (P:=prog) (d:=m+1) (xs:=#[.int .i64 a.node,.int .i64 a.epoch,.int .i64 a.stamp,.int .i64 a.status]) (ys:=#[.int .i64 b.node,.int .i64 b.epoch,.int .i64 b.stamp,.int .i64 b.status]) (fd:=(prog.fieldsOf 131).toList[1]) (fs:=[(prog.fieldsOf 131).toList[2],(prog.fieldsOf 131).toList[3]]) (r:=a.epoch==b.epoch) Zk (AH ty3 rfl) (AH ty3 rfl) (fun w=>run_equalIn_int w m 3 .i64 .i64 a.epoch b.epoch underlying3) (Ax (P:=prog) (d:=m+1) (xs:=#[.int .i64 a.node,.int .i64 a.epoch,.int .i64 a.stamp,.int .i64 a.status]) (ys:=#[.int .i64 b.node,.int .i64 b.epoch,.int .i64 b.stamp,.int .i64 b.status]) (fd:=(prog.fieldsOf 131).toList[2]) (fs:=[(prog.fieldsOf 131).toList[3]]) (r:=a.stamp==b.stamp) Zk (AH ty3 rfl) (AH ty3 rfl) (fun w=>run_equalIn_int w m 3 .i64 .i64 a.stamp b.stamp underlying3) (Ax (P:=prog) (d:=m+1) (xs:=#[.int .i64 a.node,.int .i64 a.epoch,.int .i64 a.stamp,.int .i64 a.status]) (ys:=#[.int .i64 b.node,.int .i64 b.epoch,.int .i64 b.stamp,.int .i64 b.status]) (fd:=(prog.fieldsOf 131).toList[3]) (fs:=[]) (r:=a.status==b.status) Zk (AH ty3 rfl) (AH ty3 rfl) (fun w=>run_equalIn_int w m 3 .i64 .i64 a.status b.status underlying3) (BC (m+1) _ _))))) w
 refine h.trans (h2.trans ?_)
 congr 1
 rw[Bool.eq_iff_iff]
 simp only[Bool.and_eq_true,beq_iff_eq,and_true,decide_eq_true_eq,CW]
 exact⟨fun h=>BW.ext' h.1 h.2.1 h.2.2.1 h.2.2.2,fun h=>by subst h;exact⟨rfl,rfl,rfl,rfl⟩⟩
theorem LG (a b:BW)(w:World):(Op.equalIn 10000 131 (.agg #[.int .i64 a.node,.int .i64 a.epoch,.int .i64 a.stamp,.int .i64 a.status]) (.agg #[.int .i64 b.node,.int .i64 b.epoch,.int .i64 b.stamp,.int .i64 b.status])).run prog w= .ok (decide (a=b)) w:=Kt 9998 a b w
structure Dn where
 node:Int
 inc:Int
 status:Int
instance : Enc Dn:=Enc.struct (fun t=>[.int .i64 t.node,.int .i64 t.inc,.int .i64 t.status]) 3 (fun _=>rfl) (fun _ v hv=>by simp at hv;rcases hv with rfl|rfl|rfl<;>rfl) Zd
theorem Dn.ext' {a b:Dn}(h0:a.node=b.node)(h1:a.inc=b.inc)(h2:a.status=b.status):a=b:=by cases a;cases b;simp_all
instance : DecidableEq Dn:=fun a b=>if h:a.node=b.node∧a.inc=b.inc∧a.status=b.status then isTrue (Dn.ext' h.1 h.2.1 h.2.2)else isFalse (fun e=>h (by subst e;exact⟨rfl,rfl,rfl⟩))
theorem Ns (m:Nat)(a b:Dn)(w:World):(Op.equalIn (m+2) 108 (.agg #[.int .i64 a.node,.int .i64 a.inc,.int .i64 a.status]) (.agg #[.int .i64 b.node,.int .i64 b.inc,.int .i64 b.status])).run prog w= .ok (decide (a=b)) w:=by
 have h:=run_equalIn_struct (P:=prog) w (m+1) 108 #[.int .i64 a.node,.int .i64 a.inc,.int .i64 a.status] #[.int .i64 b.node,.int .i64 b.inc,.int .i64 b.status] underlying108 Zk
 have h2:=(Ax (P:=prog) (d:=m+1) (xs:=#[.int .i64 a.node,.int .i64 a.inc,.int .i64 a.status]) (ys:=#[.int .i64 b.node,.int .i64 b.inc,.int .i64 b.status]) (fd:=(prog.fieldsOf 108).toList[0]) (fs:=[(prog.fieldsOf 108).toList[1],(prog.fieldsOf 108).toList[2]]) (r:=a.node==b.node) Zk (AH ty3 rfl) (AH ty3 rfl) (fun w=>run_equalIn_int w m 3 .i64 .i64 a.node b.node underlying3) (Ax (P:=prog) (d:=m+1) (xs:=#[.int .i64 a.node,.int .i64 a.inc,.int .i64 a.status]) (ys:=#[.int .i64 b.node,.int .i64 b.inc,.int .i64 b.status]) (fd:=(prog.fieldsOf 108).toList[1]) (fs:=[(prog.fieldsOf 108).toList[2]]) (r:=a.inc==b.inc) Zk (AH ty3 rfl) (AH ty3 rfl) (fun w=>run_equalIn_int w m 3 .i64 .i64 a.inc b.inc underlying3) (Ax (P:=prog) (d:=m+1) (xs:=#[.int .i64 a.node,.int .i64 a.inc,.int .i64 a.status]) (ys:=#[.int .i64 b.node,.int .i64 b.inc,.int .i64 b.status]) (fd:=(prog.fieldsOf 108).toList[2]) (fs:=[]) (r:=a.status==b.status) Zk (AH ty3 rfl) (AH ty3 rfl) (fun w=>run_equalIn_int w m 3 .i64 .i64 a.status b.status underlying3) (BC (m+1) _ _)))) w
 refine h.trans (h2.trans ?_)
 congr 1
 rw[Bool.eq_iff_iff]
 simp only[Bool.and_eq_true,beq_iff_eq,and_true,decide_eq_true_eq,CW]
 exact⟨fun h=>Dn.ext' h.1 h.2.1 h.2.2,fun h=>by subst h;exact⟨rfl,rfl,rfl⟩⟩
theorem Ow (a b:Dn)(w:World):(Op.equalIn 10000 108 (.agg #[.int .i64 a.node,.int .i64 a.inc,.int .i64 a.status]) (.agg #[.int .i64 b.node,.int .i64 b.inc,.int .i64 b.status])).run prog w= .ok (decide (a=b)) w:=Ns 9998 a b w
structure E4 where
 place:Int
 key:ByteArray
 hash:Int
instance : Enc E4:=Enc.struct (fun t=>[.int .i64 t.place,.string t.key,.int .u64 t.hash]) 3 (fun _=>rfl) (fun _ v hv=>by simp at hv;rcases hv with rfl|rfl|rfl<;>rfl) Zd
theorem E4.ext' {a b:E4}(h0:a.place=b.place)(h1:a.key=b.key)(h2:a.hash=b.hash):a=b:=by cases a;cases b;simp_all
instance : DecidableEq E4:=fun a b=>if h:a.place=b.place∧a.key=b.key∧a.hash=b.hash then isTrue (E4.ext' h.1 h.2.1 h.2.2)else isFalse (fun e=>h (by subst e;exact⟨rfl,rfl,rfl⟩))
theorem Ox (m:Nat)(a b:E4)(w:World):(Op.equalIn (m+2) 111 (.agg #[.int .i64 a.place,.string a.key,.int .u64 a.hash]) (.agg #[.int .i64 b.place,.string b.key,.int .u64 b.hash])).run prog w= .ok (decide (a=b)) w:=by
 have h:=run_equalIn_struct (P:=prog) w (m+1) 111 #[.int .i64 a.place,.string a.key,.int .u64 a.hash] #[.int .i64 b.place,.string b.key,.int .u64 b.hash] underlying111 Zk
 have h2:=(Ax (P:=prog) (d:=m+1) (xs:=#[.int .i64 a.place,.string a.key,.int .u64 a.hash]) (ys:=#[.int .i64 b.place,.string b.key,.int .u64 b.hash]) (fd:=(prog.fieldsOf 111).toList[0]) (fs:=[(prog.fieldsOf 111).toList[1],(prog.fieldsOf 111).toList[2]]) (r:=a.place==b.place) Zk (AH ty3 rfl) (AH ty3 rfl) (fun w=>run_equalIn_int w m 3 .i64 .i64 a.place b.place underlying3) (Ax (P:=prog) (d:=m+1) (xs:=#[.int .i64 a.place,.string a.key,.int .u64 a.hash]) (ys:=#[.int .i64 b.place,.string b.key,.int .u64 b.hash]) (fd:=(prog.fieldsOf 111).toList[1]) (fs:=[(prog.fieldsOf 111).toList[2]]) (r:=a.key.toList==b.key.toList) Zk (AH ty9 rfl) (AH ty9 rfl) (fun w=>run_equalIn_string w m 9 a.key b.key underlying9) (Ax (P:=prog) (d:=m+1) (xs:=#[.int .i64 a.place,.string a.key,.int .u64 a.hash]) (ys:=#[.int .i64 b.place,.string b.key,.int .u64 b.hash]) (fd:=(prog.fieldsOf 111).toList[2]) (fs:=[]) (r:=a.hash==b.hash) Zk (AH ty22 rfl) (AH ty22 rfl) (fun w=>run_equalIn_int w m 22 .u64 .u64 a.hash b.hash underlying22) (BC (m+1) _ _)))) w
 refine h.trans (h2.trans ?_)
 congr 1
 rw[Bool.eq_iff_iff]
 simp only[Bool.and_eq_true,beq_iff_eq,and_true,decide_eq_true_eq,CW]
 exact⟨fun h=>E4.ext' h.1 h.2.1 h.2.2,fun h=>by subst h;exact⟨rfl,rfl,rfl⟩⟩
theorem Qi (a b:E4)(w:World):(Op.equalIn 10000 111 (.agg #[.int .i64 a.place,.string a.key,.int .u64 a.hash]) (.agg #[.int .i64 b.place,.string b.key,.int .u64 b.hash])).run prog w= .ok (decide (a=b)) w:=Ox 9998 a b w
structure Ai where
 item:ByteArray
 dot:Ah
 qty:Int
 price:Int
instance : Enc Ai:=Enc.struct (fun t=>[.string t.item,.int .i64 t.dot.node,.int .i64 t.dot.life,.int .i64 t.dot.count,.int .i64 t.qty,.int .u64 t.price]) 6 (fun _=>rfl) (fun _ v hv=>by simp at hv;rcases hv with rfl|rfl|rfl|rfl|rfl|rfl<;>rfl) Zd
theorem Ai.ext' {a b:Ai}(h0:a.item=b.item)(h1:a.dot=b.dot)(h2:a.qty=b.qty)(h3:a.price=b.price):a=b:=by cases a;cases b;simp_all
instance : DecidableEq Ai:=fun a b=>if h:a.item=b.item∧a.dot=b.dot∧a.qty=b.qty∧a.price=b.price then isTrue (Ai.ext' h.1 h.2.1 h.2.2.1 h.2.2.2)else isFalse (fun e=>h (by subst e;exact⟨rfl,rfl,rfl,rfl⟩))
theorem LH (m:Nat)(a b:Ai)(w:World):(Op.equalIn (m+3) 89 (.agg #[.string a.item,.int .i64 a.dot.node,.int .i64 a.dot.life,.int .i64 a.dot.count,.int .i64 a.qty,.int .u64 a.price]) (.agg #[.string b.item,.int .i64 b.dot.node,.int .i64 b.dot.life,.int .i64 b.dot.count,.int .i64 b.qty,.int .u64 b.price])).run prog w= .ok (decide (a=b)) w:=by
 have h:=run_equalIn_struct (P:=prog) w (m+2) 89 #[.string a.item,.int .i64 a.dot.node,.int .i64 a.dot.life,.int .i64 a.dot.count,.int .i64 a.qty,.int .u64 a.price] #[.string b.item,.int .i64 b.dot.node,.int .i64 b.dot.life,.int .i64 b.dot.count,.int .i64 b.qty,.int .u64 b.price] underlying89 Zk
 have h2:=(Ax (P:=prog) (d:=m+2) (xs:=#[.string a.item,.int .i64 a.dot.node,.int .i64 a.dot.life,.int .i64 a.dot.count,.int .i64 a.qty,.int .u64 a.price]) (ys:=#[.string b.item,.int .i64 b.dot.node,.int .i64 b.dot.life,.int .i64 b.dot.count,.int .i64 b.qty,.int .u64 b.price]) (fd:=(prog.fieldsOf 89).toList[0]) (fs:=[(prog.fieldsOf 89).toList[1],(prog.fieldsOf 89).toList[2],(prog.fieldsOf 89).toList[3]]) (r:=a.item.toList==b.item.toList) Zk (AH ty9 rfl) (AH ty9 rfl) (fun w=>run_equalIn_string w (m+1) 9 a.item b.item underlying9) (Ax (P:=prog) (d:=m+2) (xs:=#[.string a.item,.int .i64 a.dot.node,.int .i64 a.dot.life,.int .i64 a.dot.count,.int .i64 a.qty,.int .u64 a.price]) (ys:=#[.string b.item,.int .i64 b.dot.node,.int .i64 b.dot.life,.int .i64 b.dot.count,.int .i64 b.qty,.int .u64 b.price]) (fd:=(prog.fieldsOf 89).toList[1]) (fs:=[(prog.fieldsOf 89).toList[2],(prog.fieldsOf 89).toList[3]]) (r:=decide (a.dot=b.dot)) Zk (I8 ty87 rfl) (I8 ty87 rfl) (fun w=>Kr m a.dot b.dot w) (Ax (P:=prog) (d:=m+2) (xs:=#[.string a.item,.int .i64 a.dot.node,.int .i64 a.dot.life,.int .i64 a.dot.count,.int .i64 a.qty,.int .u64 a.price]) (ys:=#[.string b.item,.int .i64 b.dot.node,.int .i64 b.dot.life,.int .i64 b.dot.count,.int .i64 b.qty,.int .u64 b.price]) (fd:=(prog.fieldsOf 89).toList[2]) (fs:=[(prog.fieldsOf 89).toList[3]]) (r:=a.qty==b.qty) Zk (AH ty3 rfl) (AH ty3 rfl) (fun w=>run_equalIn_int w (m+1) 3 .i64 .i64 a.qty b.qty underlying3) (Ax (P:=prog) (d:=m+2) (xs:=#[.string a.item,.int .i64 a.dot.node,.int .i64 a.dot.life,.int .i64 a.dot.count,.int .i64 a.qty,.int .u64 a.price]) (ys:=#[.string b.item,.int .i64 b.dot.node,.int .i64 b.dot.life,.int .i64 b.dot.count,.int .i64 b.qty,.int .u64 b.price]) (fd:=(prog.fieldsOf 89).toList[3]) (fs:=[]) (r:=a.price==b.price) Zk (AH ty22 rfl) (AH ty22 rfl) (fun w=>run_equalIn_int w (m+1) 22 .u64 .u64 a.price b.price underlying22) (BC (m+2) _ _))))) w
 refine h.trans (h2.trans ?_)
 congr 1
 rw[Bool.eq_iff_iff]
 simp only[Bool.and_eq_true,beq_iff_eq,and_true,decide_eq_true_eq,CW]
 exact⟨fun h=>Ai.ext' h.1 h.2.1 h.2.2.1 h.2.2.2,fun h=>by subst h;exact⟨rfl,rfl,rfl,rfl⟩⟩
theorem Eb (a b:Ai)(w:World):(Op.equalIn 10000 89 (.agg #[.string a.item,.int .i64 a.dot.node,.int .i64 a.dot.life,.int .i64 a.dot.count,.int .i64 a.qty,.int .u64 a.price]) (.agg #[.string b.item,.int .i64 b.dot.node,.int .i64 b.dot.life,.int .i64 b.dot.count,.int .i64 b.qty,.int .u64 b.price])).run prog w= .ok (decide (a=b)) w:=LH 9997 a b w
structure LI where
 marks:SH
 cloud:SH
structure AX where
 entries:SH
 ctx:LI
structure MB where
 parts:Int
 copies:Int
 spots:Int
 members:SH
structure Cd where
 kind:Int
 frm:Int
 to:Int
 req:Int
 key:ByteArray
 cart:AX
 owner:Int
 part:Int
 n:Int
 ring:MB
 peers:SH
 sums:SH
instance : Enc Cd:=Enc.struct (fun t=>[.int .i64 t.kind,.int .i64 t.frm,.int .i64 t.to,.int .i64 t.req,.string t.key,.slice t.cart.entries.a t.cart.entries.len t.cart.entries.cap,.slice t.cart.ctx.marks.a t.cart.ctx.marks.len t.cart.ctx.marks.cap,.slice t.cart.ctx.cloud.a t.cart.ctx.cloud.len t.cart.ctx.cloud.cap,.int .i64 t.owner,.int .i64 t.part,.int .i64 t.n,.int .i64 t.ring.parts,.int .i64 t.ring.copies,.int .i64 t.ring.spots,.slice t.ring.members.a t.ring.members.len t.ring.members.cap,.slice t.peers.a t.peers.len t.peers.cap,.slice t.sums.a t.sums.len t.sums.cap]) 17 (fun _=>rfl) (fun _ v hv=>by simp at hv;rcases hv with rfl|rfl|rfl|rfl|rfl|rfl|rfl|rfl|rfl|rfl|rfl|rfl|rfl|rfl|rfl|rfl|rfl<;>rfl) Zd
structure MV where
 kind:Int
 frm:Int
 to:Int
 req:Int
 key:ByteArray
 owner:Int
 part:Int
 n:Int
 parts:Int
 copies:Int
 spots:Int
 ent:List Ai
 mrk:List Ac
 cl:List Ah
 mem:List BW
 pe:List Dn
 su:List E4
theorem MV.ext' {a b:MV}(h0:a.kind=b.kind)(h1:a.frm=b.frm)(h2:a.to=b.to)(h3:a.req=b.req)(h4:a.key=b.key)(h5:a.owner=b.owner)(h6:a.part=b.part)(h7:a.n=b.n)(h8:a.parts=b.parts)(h9:a.copies=b.copies)(h10:a.spots=b.spots)(h11:a.ent=b.ent)(h12:a.mrk=b.mrk)(h13:a.cl=b.cl)(h14:a.mem=b.mem)(h15:a.pe=b.pe)(h16:a.su=b.su):a=b:=by cases a;cases b;simp_all
theorem MV.iff {a b:MV}:a=b↔a.kind=b.kind∧a.frm=b.frm∧a.to=b.to∧a.req=b.req∧a.key=b.key∧a.owner=b.owner∧a.part=b.part∧a.n=b.n∧a.parts=b.parts∧a.copies=b.copies∧a.spots=b.spots∧a.ent=b.ent∧a.mrk=b.mrk∧a.cl=b.cl∧a.mem=b.mem∧a.pe=b.pe∧a.su=b.su:=⟨fun e=>by subst e;exact⟨rfl,rfl,rfl,rfl,rfl,rfl,rfl,rfl,rfl,rfl,rfl,rfl,rfl,rfl,rfl,rfl,rfl⟩,fun h=>MV.ext' h.1 h.2.1 h.2.2.1 h.2.2.2.1 h.2.2.2.2.1 h.2.2.2.2.2.1 h.2.2.2.2.2.2.1 h.2.2.2.2.2.2.2.1 h.2.2.2.2.2.2.2.2.1 h.2.2.2.2.2.2.2.2.2.1 h.2.2.2.2.2.2.2.2.2.2.1 h.2.2.2.2.2.2.2.2.2.2.2.1 h.2.2.2.2.2.2.2.2.2.2.2.2.1 h.2.2.2.2.2.2.2.2.2.2.2.2.2.1 h.2.2.2.2.2.2.2.2.2.2.2.2.2.2.1 h.2.2.2.2.2.2.2.2.2.2.2.2.2.2.2.1 h.2.2.2.2.2.2.2.2.2.2.2.2.2.2.2.2⟩
instance : DecidableEq MV:=fun a b=>if h:a.kind=b.kind∧a.frm=b.frm∧a.to=b.to∧a.req=b.req∧a.key=b.key∧a.owner=b.owner∧a.part=b.part∧a.n=b.n∧a.parts=b.parts∧a.copies=b.copies∧a.spots=b.spots∧a.ent=b.ent∧a.mrk=b.mrk∧a.cl=b.cl∧a.mem=b.mem∧a.pe=b.pe∧a.su=b.su then isTrue (MV.iff.2 h)else isFalse (fun e=>h (MV.iff.1 e))
structure A6 where
 ea:Option Addr
 ec:Nat
 ma:Option Addr
 mc:Nat
 ca:Option Addr
 cc:Nat
 ba:Option Addr
 bc:Nat
 pa:Option Addr
 pc:Nat
 sa:Option Addr
 sc:Nat
abbrev An (v:MV)(s:A6):Cd:=⟨v.kind,v.frm,v.to,v.req,v.key,⟨⟨s.ea,v.ent.length,s.ec⟩,⟨⟨s.ma,v.mrk.length,s.mc⟩,⟨s.ca,v.cl.length,s.cc⟩⟩⟩,v.owner,v.part,v.n,⟨v.parts,v.copies,v.spots,⟨s.ba,v.mem.length,s.bc⟩⟩,⟨s.pa,v.pe.length,s.pc⟩,⟨s.sa,v.su.length,s.sc⟩⟩
structure Dj (w:World)(s:A6)(v:MV):Prop where
 ent:At w s.ea v.ent
 mrk:At w s.ma v.mrk
 cl:At w s.ca v.cl
 mem:At w s.ba v.mem
 pe:At w s.pa v.pe
 su:At w s.sa v.su
structure F7 (w:World)(s:A6)(v:MV):Prop where
 ent:Ag w 89 s.ea s.ec v.ent
 mrk:Ag w 112 s.ma s.mc v.mrk
 cl:Ag w 87 s.ca s.cc v.cl
 mem:Ag w 131 s.ba s.bc v.mem
 pe:Ag w 108 s.pa s.pc v.pe
 su:Ag w 111 s.sa s.sc v.su
def TF (s:A6)(v:MV):Nat→Prop:=fun q=>(v.ent≠ []∧own s.ea q)∨(v.mrk≠ []∧own s.ma q)∨(v.cl≠ []∧own s.ca q)∨(v.mem≠ []∧own s.ba q)∨(v.pe≠ []∧own s.pa q)∨(v.su≠ []∧own s.sa q)
def DK (s:A6):Nat→Prop:=fun q=>own s.ea q∨own s.ma q∨own s.ca q∨own s.ba q∨own s.pa q∨own s.sa q
def IR (s:A6):Prop:=[own s.ea,own s.ma,own s.ca,own s.ba,own s.pa,own s.sa].Pairwise (fun f g=>∀q,f q→¬g q)
def nilS :A6:=⟨none,0,none,0,none,0,none,0,none,0,none,0⟩
def nilV :MV:=⟨0,0,0,0,⟨#[]⟩,0,0,0,0,0,0,[],[],[],[],[],[]⟩
structure Fl (v:MV):Prop where
 ent:v.ent.length≤4294967295
 mrk:v.mrk.length≤4294967295
 cl:v.cl.length≤4294967295
 mem:v.mem.length≤4294967295
 pe:v.pe.length≤4294967295
 su:v.su.length≤4294967295
section
variable {w w':World}{s:A6}{v:MV}{S:Nat→Prop}
theorem Fv {α:Type}[Enc α]{a:Option Addr}{xs:List α}(h:At w a xs)(hn:xs≠ []){q:Nat}(hq:own a q):q<w.heap.size:=by
 obtain⟨x,hx,rfl⟩:=hq
 rcases h with rfl|⟨b,o,ha,hc⟩
 ·exact absurd rfl hn
 ·rw[hx]at ha;cases ha;exact hc.lt
theorem Dj.own_lt (h:Dj w s v):∀q,TF s v q→q<w.heap.size:=by
 rintro q (⟨h1,h2⟩|⟨h1,h2⟩|⟨h1,h2⟩|⟨h1,h2⟩|⟨h1,h2⟩|⟨h1,h2⟩)
 ·exact Fv h.ent h1 h2
 ·exact Fv h.mrk h1 h2
 ·exact Fv h.cl h1 h2
 ·exact Fv h.mem h1 h2
 ·exact Fv h.pe h1 h2
 ·exact Fv h.su h1 h2
theorem Dj.keepO (h:Dj w s v)(k:Ao S w w')(hn:∀q,TF s v q→¬S q):Dj w' s v:=
 ⟨h.ent.keepN k (fun x hx he=>hn x.block (Or.inl ⟨he,x,hx,rfl⟩)),h.mrk.keepN k (fun x hx he=>hn x.block (Or.inr (Or.inl ⟨he,x,hx,rfl⟩))),h.cl.keepN k (fun x hx he=>hn x.block (Or.inr (Or.inr (Or.inl ⟨he,x,hx,rfl⟩)))),h.mem.keepN k (fun x hx he=>hn x.block (Or.inr (Or.inr (Or.inr (Or.inl ⟨he,x,hx,rfl⟩))))),h.pe.keepN k (fun x hx he=>hn x.block (Or.inr (Or.inr (Or.inr (Or.inr (Or.inl ⟨he,x,hx,rfl⟩)))))),h.su.keepN k (fun x hx he=>hn x.block (Or.inr (Or.inr (Or.inr (Or.inr (Or.inr (⟨he,x,hx,rfl⟩)))))))⟩
theorem Dj.ext (h:Dj w s v)(k:As w w'):Dj w' s v:=h.keepO k fun _ _=>id
theorem F7.own_lt (h:F7 w s v):∀q,DK s q→q<w.heap.size:=by
 rintro q (hq|hq|hq|hq|hq|hq)
 ·exact h.ent.own_lt q hq
 ·exact h.mrk.own_lt q hq
 ·exact h.cl.own_lt q hq
 ·exact h.mem.own_lt q hq
 ·exact h.pe.own_lt q hq
 ·exact h.su.own_lt q hq
theorem F7.keepO (h:F7 w s v)(k:Ao S w w')(hn:∀q,DK s q→¬S q):F7 w' s v:=
 ⟨h.ent.keepO k (fun q hq=>hn q (Or.inl hq)),h.mrk.keepO k (fun q hq=>hn q (Or.inr (Or.inl hq))),h.cl.keepO k (fun q hq=>hn q (Or.inr (Or.inr (Or.inl hq)))),h.mem.keepO k (fun q hq=>hn q (Or.inr (Or.inr (Or.inr (Or.inl hq))))),h.pe.keepO k (fun q hq=>hn q (Or.inr (Or.inr (Or.inr (Or.inr (Or.inl hq)))))),h.su.keepO k (fun q hq=>hn q (Or.inr (Or.inr (Or.inr (Or.inr (Or.inr hq))))))⟩
theorem F7.ext (h:F7 w s v)(k:As w w'):F7 w' s v:=h.keepO k fun _ _=>id
theorem F7.r (h:F7 w s v):Dj w s v:=⟨h.ent.sl,h.mrk.sl,h.cl.sl,h.mem.sl,h.pe.sl,h.su.sl⟩
theorem nil_R :Dj w nilS nilV:=⟨At.nil _ _,At.nil _ _,At.nil _ _,At.nil _ _,At.nil _ _,At.nil _ _⟩
theorem nil_own :∀q,¬DK nilS q:=by
 rintro q (hq|hq|hq|hq|hq|hq)<;>exact Ad q hq
theorem nil_ok :Fl nilV:=⟨by decide,by decide,by decide,by decide,by decide,by decide⟩
end
end Go.Proofs.YtocgdeefgohdhaaGreat
