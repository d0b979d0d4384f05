/- Several texts joined, each with its own heading in the notes: The second form's bound: a slice is no longer than the arguments' bulk; a witness for it. PLAIN: the check of a tape never answers 'no room'. No condition beyond those of each row. -/
import Derived.Test.YtflonfcemlfbdaaDoorYKr
import Derived.Deep.DeepHandedRow
import Derived.Test.YtflonfcemlfbdaaDoorYNg
namespace Go.Proofs.YtflonfcemlfbdaaDoor
open Go Go.RowKit Go.ChangeShapes Go.WideShapes Go.Deep
set_option linter.unusedVariables false
set_option linter.unusedSimpArgs false
theorem zi6{H:Type}(d:DataW H):1≤Rows.uptoBulk d:=by
 cases d with
 | lit l=>cases l<;>simp[Rows.uptoBulk]
 | nil=>simp[Rows.uptoBulk]
 | ptr d=>simp[Rows.uptoBulk]
 | slice elems spare=>simp[Rows.uptoBulk]
 | agg parts=>simp[Rows.uptoBulk]
 | iface t d=>simp[Rows.uptoBulk]
 | map entries=>simp[Rows.uptoBulk]
 | held h=>simp[Rows.uptoBulk]
theorem zi7{H:Type}(l:List (DataW H)):l.length≤Rows.uptoBulkAll l:=by
 induction l with
 | nil=>simp[Rows.uptoBulkAll]
 | cons x r ih=>have:=zi6 x;simp only[Rows.uptoBulkAll,List.length_cons];omega
theorem zih{H:Type}{d:DataW H}{l:List (DataW H)}(h:d∈l):Rows.uptoBulk d≤Rows.uptoBulkAll l:=by
 induction l with
 | nil=>cases h
 | cons x r ih=>
  simp only[Rows.uptoBulkAll]
  cases List.mem_cons.1 h with
  | inl e=>subst e;omega
  | inr e=>have:=ih e;omega
theorem zi8{H:Type}{enc:TypeId×Value→H}{P:Program}{w:World}{held:Bool}{t e:TypeId}(ht:P.underlying t=some (.slice e))(hc:P.cellsOf e=1){v:Value}{d:DataW H}{p:List MemPlace}(h:DataW.Trod enc P w 0 (fun _=>true) held t v d p){B:Nat}{zs:List Int}(hz:Ints B w v zs):zs.length≤Rows.uptoBulk d:=by
 obtain⟨n,h⟩:=h
 obtain⟨a,cap,rfl,_⟩:=hz
 rcases open_slice1 ht hc h with⟨h0,_⟩|⟨a',len,cap',m',n',V,D,Pl,h0,_,hl,hm,hmm,hx,hel⟩
 ·
  injection h0 with h0 _
  injection h0 with _ h0 _
  omega
 ·
  injection h0 with h0 _
  injection h0 with _ h0 _
  injection hx with hd hp
  subst hd
  have h1:=zi7 ((List.range len).map D)
  simp only[List.length_map,List.length_range] at h1
  simp only[Rows.uptoBulk]
  omega
theorem zi9{H:Type}{o:Option (List (DataW H)×List (DataW H)×List MemPlace)}(h:(match o with|some x=>Rows.uptoSmall H (x.1++x.2.1)|none=>false)=true):∃x,o=some x∧Rows.uptoSmall H (x.1++x.2.1)=true:=by
 cases o with
 | none=>cases h
 | some x=>exact⟨x,rfl,h⟩
theorem zeA {H : Type} {enc : TypeId × Value → H} {C : Checked} {os : Os} {f : FuncId} {fn : Func} {s : OpenSpec} {conds : List PathCond} {apart : Bool} {laid : List (String × DataW Unit)} (w0 : World) (args : Array Value) (hos : w0.os = os)
  (hsh:(w0.forCall (fun _ _=>0) ⟨#[],args,[]⟩).Shaped C.prog)
  (hok:Input.okWideB C.prog (w0.forCall (fun _ _=>0) ⟨#[],args,[]⟩) f ⟨#[],args,[]⟩=true)
  (hrow:s.preRow enc C.prog fn conds apart laid (w0.forCall (fun _ _=>0) ⟨#[],args,[]⟩).memory args):
  ∃(w:World) (tape:Tape) (i:Input),w.os=os∧(w.forCall tape i).Shaped C.prog∧i.vars=[]∧Input.okWide C.prog (w.forCall tape i) .any w.heap.size f i ∧
   s.preRow enc C.prog fn conds apart laid (w.forCall tape i).memory i.args∧({}:Assume).holds C.prog (lone (Frame.enter C.prog f i.args .normal) [] (w.forCall tape i)):=
 ⟨w0,fun _ _=>0,⟨#[],args,[]⟩,hos,hsh,(Input.okWide_of_okWideB (base:=0) hok).1,(Input.okWide_of_okWideB hok).2,hrow,by
  simp only[Assume.holds]
  exact⟨by simp,by simp,fun h=>(by cases h),by simp,by simp⟩⟩
end Go.Proofs.YtflonfcemlfbdaaDoor
namespace Go.Proofs.YtflonfcemlfbdaaDoor
open Go
set_option linter.unusedVariables false
theorem zce(i n:Nat)(bs:List UInt8):(numP i n bs).1≠7:=by
 induction bs generalizing i n with
 | nil=>rw[numP];simp
 | cons c bs ih=>
  rw[numP]
  split
  ·simp
  ·
   split
   ·simp
   ·exact ih _ _
theorem zfS:∀(f:Nat) (acc:List Int) (last:Int) (bs:List UInt8),(blkP f acc last bs).1≠7
 | 0,_,_,_=>by rw[blkP];simp
 | f+1,acc,last,bs=>by
  rw[blkP]
  split
  ·simp
  ·
   simp only
   split
   ·exact zce _ _ _
   ·
    split
    ·exact zce _ _ _
    ·
     split
     ·simp
     ·exact zfS f _ _ _
theorem zkb(a:Int)(bs:List UInt8):(evP a bs).1≠7:=by
 unfold evP
 simp only
 split
 ·exact zce _ _ _
 ·
  split
  ·simp
  ·
   split
   ·simp
   ·
    split
    ·exact zfS _ _ _ _
    ·exact zce _ _ _
theorem zfT:∀(m:Nat) (a:Int) (bs:List UInt8),(evsP m a bs).1≠7
 | 0,_,_=>by rw[evsP];simp
 | m+1,a,bs=>by
  rw[evsP]
  split
  ·exact zkb _ _
  ·exact zfT m _ _
theorem zkc(l:List Ev)(k:Nat):fAt l k≠7:=by
 unfold fAt
 cases l[k]? with
 | none=>simp
 | some x=>
  simp only
  unfold evF
  split
  ·simp
  ·
   split
   ·simp
   ·
    split
    ·simp
    ·
     cases (if k=0 then none else l[k-1]?) with
     | none=>simp
     | some p=>
      simp only
      split<;>simp
theorem zii{l:List Ev}{c:Int}(h:EvRes l c):c≠7:=by
 rcases h with⟨_,rfl⟩|⟨_,k,_,_,rfl,_⟩|⟨_,_,rfl⟩
 ·decide
 ·exact zkc l k
 ·decide
theorem zkd{b:List UInt8}{c:Int}{l:List Ev}(h:DecR b c l):c≠7:=by
 rcases h with⟨_,rfl,_⟩|⟨_,rfl,_⟩|⟨_,_,_,rfl,_⟩|⟨_,_,_,e1,m,r1,hn,h⟩
 ·decide
 ·decide
 ·decide
 ·
  have h1:=zce 0 0 (b.take (b.length-4))
  rw[hn] at h1
  rcases h with⟨_,rfl,_⟩|⟨_,_,rfl,_⟩|⟨_,_,e,ev,r,he,h⟩
  ·decide
  ·exact h1
  ·
   have h2:=zfT m 0 r1
   rw[he] at h2
   rcases h with⟨_,rfl,_⟩|⟨_,_,rfl,_⟩|⟨_,_,h3,_⟩
   ·exact h2
   ·decide
   ·exact zii h3
theorem zke{img:List Int}{b:List UInt8}{cnt c:Int}{l:List Ev}(h:ChkR img b cnt c l):c≠7:=by
 have hn:newC img≠7:=by unfold newC;split<;>(try split)<;>decide
 rcases h with⟨_,rfl,_⟩|⟨_,_,rfl,_⟩|⟨_,_,_,d,m,hd,⟨_,rfl,_⟩|⟨_,_,rfl,_⟩|⟨_,_,rfl,_⟩⟩
 ·exact hn
 ·decide
 ·exact zkd hd
 ·decide
 ·decide
end Go.Proofs.YtflonfcemlfbdaaDoor
