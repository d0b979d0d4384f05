/- The contract of sameTape at tapes that read alike. No condition beyond the readings. -/
import Derived.Test.YtflonfcemlfbdaaDoorYDe
import Derived.Test.YtflonfcemlfbdaaDoorYMem
import Derived.Test.YtflonfcemlfbdaaDoorYCl
import Derived.Deep.AppendLies
import Derived.Deep.RegionLaw
namespace Go.Proofs.YtflonfcemlfbdaaDoor
open Go Go.RowKit Go.ChangeShapes Go.WideShapes Go.Deep
set_option linter.unusedVariables false
theorem zc7 {P : Program} (w : World) {ops : Array Oper} {o : Oper} {a : Act} {K : Act → World → Prop} {Q : Exit → Act → World → Prop} {E : Prop} (hgd : o.guard = none) (s x : Operand) (t : TypeId)
  (ho:o.op=.call {callee:=.builtin .append,args:=#[s,x],argTypes:=#[t,t]})
  (base:Nat) (e:TypeId) (z:Value) (bytes:Nat) (ht:P.underlying t=some (.slice e)) (hi:(P.info? e).map (fun i=>(i.zero,i.size,i.bytes))=some (some z,1,bytes)) (hzs:z.cells.size=1)
  (v:Value) (n:Nat) (xs:List Value) (hs:a.eval s=v) (hown:w.ownsRow base e 1 v n xs) (vx:Value) (m B:Nat) (news:List Value) (hxe:a.eval x=vx) (hx:SlV m B w vx news) (hone:∀u∈news,u.oneCell'=true)
  (hmax:n+news.length≤maxLen) (hbytes:(n+news.length)*bytes≤140737488355328) (hbase:base≤w.heap.size)
  (h:∀a' c' w',w'.ownsRow base e 1 (.slice a' (n+news.length) c') (n+news.length) (xs++news)→w.grownBy w' v.ownBlock→K (a.put o.dst (.slice a' (n+news.length) c')) w'):
  if Region.wanted o (yielded ops a.tmps)=true then Oper.wp P o a w K Q else E:=by
 rw[if_pos (by simp[Region.wanted,hgd])]
 obtain⟨v',w',hr,h2,h3,h5⟩:=zbT (P:=P) w t o.type base e z bytes ht hi hzs v n xs hown vx m B news hx hone hmax hbytes hbase
 obtain⟨a',c',rfl⟩:=zaY h2
 unfold Oper.wp
 simp[execOp,ho,resolve,invoke,builtin,hs,hxe,hr,Result.andThen]
 exact h a' c' w' h2 h3
end Go.Proofs.YtflonfcemlfbdaaDoor
