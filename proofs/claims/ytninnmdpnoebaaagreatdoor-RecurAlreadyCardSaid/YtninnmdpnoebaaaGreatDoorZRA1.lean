/- The law RecurAlready: what its proof takes, part 2 of 8 (packed by wip/gen/pack.py: each section was a text of its own). -/
import Derived.Test.YtninnmdpnoebaaaGreatDoorProg
import Derived.Below
import Derived.Deep.Draws
import Derived.Deep.AppendLies
import Derived.Maps.AppendAt
import Derived.OwnWalk
import Derived.Laws.BytesArg
import Derived.Laws.MakeOwn
import Derived.Laws.OwnMore
import Derived.Deep.OwnRows
import Derived.Tactics
import Derived.Lib.ConvBytes
import Derived.Laws.Slices
import Derived.WalkKit
import Derived.KernelRfl
import Derived.RowKit3
import Derived.Deep.LoopGhost
import Derived.Deep.QuietTactic
import Derived.BigQuiet
import Derived.WideLaws
import Derived.Deep.DeepCutAuto
import Derived.Deep.CutBlock
import Derived.Deep.RegionHeld3
import Derived.Laws.Rows
import Derived.Lib.AppendStr
import Derived.ArgAppend
import Derived.Laws.IdiomCopy
import Derived.OrdersHeld
import Derived.Laws.BitsLemmas
import Derived.RowKit
import Derived.Test.YtninnmdpnoebaaaGreatDoorZRA0
import Derived.Laws.StructEq
import Derived.Lib.AppendIntMem
import Derived.Maps.RangeRun
import Derived.Sort.OwnSorted
import Derived.Sort.KeysCollected
import Derived.Laws.EntriesVeiled
import Derived.Laws.RangeString
import Derived.Laws.Runes
import Derived.WalkMore
import Derived.Laws.Cover4
import Derived.Laws.CopyOwn
section
namespace Go.Proofs.YtninnmdpnoebaaaGreatDoor.Sq
open Go.RowKit Go.Deep Go.ChangeShapes Go.WideShapes
open Go.RowKit Go.Proofs.YtninnmdpnoebaaaGreatDoorW.PrintWords Go.Proofs.YtninnmdpnoebaaaGreatDoorW.PrintLast Go.Proofs.YtninnmdpnoebaaaGreatDoorW.PrintMore
set_option linter.unusedVariables false
set_option linter.unusedSimpArgs false
def bl:Nat→Nat→List Bool
 | 0,_=>[]
 | n+1,k=>(k % 2 == 1) :: bl n (k / 2)
def bm (n k:Nat):Array Bool:=⟨bl n k⟩
section
variable {P:Program} {md:Region.Mode} {ops:Array Oper} {Q:Exit→Act→World→Prop} {S:World→Prop} {ds:List Nat} {T:Bool × List (List Nat × List Nat)}
theorem zPu {n k fuel:Nat} {oi:Oper} {v:Value} {a:Act} {w:World} (i N m:Nat) {a':Act} (h:wpAnyLast P md ops Q S ds fuel (bm n m) a' w)
  (hT:Aside0 (rtab md ops=T):=by exact HT_) (hi:ops[i]? = some oi:=by exact rfl) (hN:oi.dst=some N:=by exact rfl) (hc:anyT T (bm n k).toList (bm n m).toList i=true:=by kernel_rfl)
  (hQ:∀ c a w,Q (.panic c) (a.put oi.dst v) w→Q (.panic c) a w:=by exact fun _ _ _ h=>h)
  (h1:Region.wanted oi (yielded ops a.tmps)=true:=by rfl) (h2:∀ w',(execOp a.eval oi).run P w'=.ok (.value v) w':=by intro w';go_simp;with_reducible rfl)
  (ha:a.put (some N) v=a':=by (simp only [Act.put,List.setIfInBounds_toArray,List.set_cons_zero,List.set_cons_succ,i64_w,i32_w]);rfl) :
  wpAnyLast P md ops Q S ds (fuel+1) (bm n k) a w :=
 pure_ (bm n m) hi hN (any_of hT.out hc) hQ (Or.inl ⟨h1,h2⟩) ha h
theorem zPn {n k fuel:Nat} {oi:Oper} {a:Act} {w:World} (i N m:Nat) {a':Act} (h:wpAnyLast P md ops Q S ds fuel (bm n m) a' w)
  (hT:Aside0 (rtab md ops=T):=by exact HT_) (hi:ops[i]? = some oi:=by exact rfl) (hN:oi.dst=some N:=by exact rfl) (hc:anyT T (bm n k).toList (bm n m).toList i=true:=by kernel_rfl)
  (hQ:∀ c a w,Q (.panic c) (a.put oi.dst undef) w→Q (.panic c) a w:=by exact fun _ _ _ h=>h)
  (h1:Region.wanted oi (yielded ops a.tmps)=false:=by rfl)
  (ha:a.put (some N) undef=a':=by (simp only [Act.put,List.setIfInBounds_toArray,List.set_cons_zero,List.set_cons_succ,i64_w,i32_w]);rfl) :
  wpAnyLast P md ops Q S ds (fuel+1) (bm n k) a w :=
 pure_ (bm n m) hi hN (any_of hT.out hc) hQ (Or.inr ⟨h1,rfl⟩) ha h
theorem zTk {n k fuel:Nat} {oi:Oper} {v:Value} {a:Act} {w:World} {B:List Nat} (i N m:Nat) {a':Act} (h:wpAnyLast P md ops Q S ds fuel (bm n m) a' w)
  (hT:Aside0 (rtab md ops=T):=by exact HT_) (hB:Aside0 (waitsOk T.2 B=true):=by exact HW_) (hi:ops[i]? = some oi:=by exact rfl) (hN:oi.dst=some N:=by exact rfl) (hc:takeW T B ds (bm n k).toList (bm n m).toList i=true:=by kernel_rfl)
  (hQ:∀ c a w,Q (.panic c) (a.put oi.dst v) w→Q (.panic c) a w:=by exact fun _ _ _ h=>h) (hS:S w:=by exact hHeld)
  (h1:Region.wanted oi (yielded ops a.tmps)=true:=by rfl) (h2:∀ w',S w'→(execOp a.eval oi).run P w'=.ok (.value v) w':=by intro w' s_;(repeat (have _:=s_.1;replace s_:=s_.2));go_simp;with_reducible rfl)
  (ha:a.put (some N) v=a':=by (simp only [Act.put,List.setIfInBounds_toArray,List.set_cons_zero,List.set_cons_succ,i64_w,i32_w]);rfl) :
  wpAnyLast P md ops Q S ds (fuel+1) (bm n k) a w :=
 take_ (bm n m) hi hN (take_ofW hT.out hB.out hc) hQ (Or.inl ⟨h1,h2⟩) hS ha h
theorem zOn {n k fuel:Nat} {oi:Oper} {a:Act} {w:World} (i N m:Nat)
  (h:∀ K:Act→World→Prop,Shut (∀ a' w',S w'→(S w'→wpAnyLast P md ops Q S ds fuel (bm n m) a' w')→K a' w')→if Region.wanted oi (yielded ops a.tmps)=true then Oper.wp P oi a w K Q else K (a.put (some N) undef) w)
  (hT:Aside0 (rtab md ops=T):=by exact HT_) (hi:ops[i]? = some oi:=by exact rfl) (hN:oi.dst=some N:=by exact rfl) (hc:(readyT T.2 (bm n k).toList == [i] && (bm n k).toList.set i true == (bm n m).toList)=true:=by kernel_rfl) (hd:i ∉ ds:=by decide) :
  wpAnyLast P md ops Q S ds (fuel+1) (bm n k) a w :=
 one_ (bm n m) hi hN (one_of hT.out hc) hd h
theorem zGo {oi:Oper} {N:Option Tmp} {a:Act} {w:World} {K:Act→World→Prop} {f:FuncId} {fn:Func} {ao:Array Operand} {ts:Array TypeId} (hf:P.funcs[f]? = some fn) (args:Array Value)
  (h:Calls P f args w fun e w'=>∃ v,e=.returned v∧K (a.put N v) w')
  (hname:(fn.name == "runtime.NumGoroutine")=false:=by kernel_rfl) (hb:fn.body.isSome=true:=by exact rfl)
  (hw:Region.wanted oi (yielded ops a.tmps)=true:=by rfl) (hN:oi.dst=N:=by exact rfl) (hop:oi.op=.call { callee:=.value (.func f),args:=ao,argTypes:=ts }:=by exact rfl) (hargs:ao.map a.eval=args:=by (try simp only [List.map_toArray,List.map_cons,List.map_nil]);first | done | rfl | (simp only [List.length_drop,List.length_take];rfl)) :
  if Region.wanted oi (yielded ops a.tmps)=true then Oper.wp P oi a w K Q else K (a.put N undef) w:=goes_ hf hname hb args hw hN hop hargs h
theorem zGL {rest:List Oper} {oi:Oper} {a:Act} {w:World} (N:Nat) {f:FuncId} {fn:Func} {ao:Array Operand} {ts:Array TypeId} (hf:P.funcs[f]? = some fn) (args:Array Value)
  (h:Calls P f args w fun e w'=>∃ v,e=.returned v∧wpList P ops Q rest (a.put (some N) v) w')
  (hd:oi.dst=some N:=by exact rfl) (hg:oi.guard=none:=by exact rfl) (hname:(fn.name == "runtime.NumGoroutine")=false:=by kernel_rfl) (hb:fn.body.isSome=true:=by exact rfl)
  (hop:oi.op=.call { callee:=.value (.func f),args:=ao,argTypes:=ts }:=by exact rfl) (hargs:ao.map a.eval=args:=by (try simp only [List.map_toArray,List.map_cons,List.map_nil]);first | done | rfl | (simp only [List.length_drop,List.length_take];rfl)):wpList P ops Q (oi :: rest) a w :=
 goesL_ (some N) hd hg hf hname hb args hop hargs h
theorem zgd {o:Oper} {rest:List Oper} {a:Act} {W:World} (N:Nat) (h:wpList P ops Q (o :: rest) a W) (_hN:o.dst=some N:=by exact rfl):wpList P ops Q (o :: rest) a W:=h
theorem zgc {o:Oper} {rest:List Oper} {a:Act} {W:World} {ao:Array Operand} {ts:Array TypeId} (f:FuncId) (h:wpList P ops Q (o :: rest) a W) (_ho:o.op=.call { callee:=.value (.func f),args:=ao,argTypes:=ts }:=by exact rfl):wpList P ops Q (o :: rest) a W:=h
theorem zBx {o:Oper} {rest:List Oper} {a:Act} {W:World} (N:Nat) (cs:Array Value) (t:TypeId)
  (h:∀ g,g=W.heap.size→∀ w1,w1.heap[g]? = some (.cells cs t (0,0))→Below W.heap.size W w1→wpList P ops Q rest (a.put o.dst (.pointer (some ⟨g,0,none⟩))) w1)
  (hd:o.dst=some N:=by rfl) (hgd:o.guard=none:=by rfl) (hrun:(execOp a.eval o).run P W=.ok (.value (.pointer (some ⟨W.heap.size,0,none⟩))) (W.alloc (.cells cs t (0,0))):=by first | (go_simp;done) | (go_simp;rfl)):wpList P ops Q (o :: rest) a W :=
 box_event hgd hd hrun h
end
section
variable {w0 w w1 w2 W:World} {g:Nat} {o o':Obj} {S:Nat→Prop} {t:TypeId} {cs:Array Value}
theorem zC {p:Addr} {v:Value} (h:w.cell? p=some v) (hB:Aside0 (Below w.heap.size w w1):=by exact HB):w1.cell? p=some v:=(hB.out.cell (World.block_lt_of_cell? w _ h)).trans h
theorem zX {p:Addr} {v:Value} {X:Prop} (h:w.cell? p=some v) (k:w.cell? p=some v→X:=by intro h_;exact (HB.out.cell (World.block_lt_of_cell? _ _ h_)).trans h_):X:=k h
def Ats (W:World) (g:Nat) (F:Array Value→TypeId→Prop):Prop:=∃ cs t,W.heap[g]? = some (.cells cs t (0,0))∧F cs t
variable {F:Array Value→TypeId→Prop}
theorem at_drewN (h:Ats w g F) (n:Nat):Ats (w.drewN n) g F:=h
theorem at_drew (h:Ats w g F):Ats w.drew g F:=h
theorem at_alloc (h:Ats w g F) (o':Obj):Ats (w.alloc o') g F:=by
 obtain ⟨cs,t,h1,h2⟩:=h;exact ⟨cs,t,blk_alloc h1 o',h2⟩
theorem at_far {p:Addr} {u:Value} (h:Ats w g F) (hp:g≠p.block):Ats (w.setCell p u) g F:=by
 obtain ⟨cs,t,h1,h2⟩:=h;exact ⟨cs,t,blk_far h1 hp u,h2⟩
theorem at_put {i:Nat} {u:Value} (h:Ats w g (fun cs t=>F (cs.setIfInBounds i u) t)):Ats (w.setCell ⟨g,i,none⟩ u) g F:=by
 obtain ⟨cs,t,h1,h2⟩:=h;exact ⟨_,t,blk_put h1 i u rfl,h2⟩
theorem at_end (h:w.heap[g]? = some (.cells cs t (0,0))) (hF:F cs t):Ats w g F:=⟨cs,t,h,hF⟩
theorem at_of (h:Ats w g (fun cs' t'=>Obj.cells cs' t' (0,0)=o)):w.heap[g]? = some o:=by
 obtain ⟨cs,t,h1,h2⟩:=h;exact h1.trans (congrArg some h2)
theorem zc {X Y:Prop} (h:Aside0 X) (k:X→Y:=by intro h_;apply at_of;(repeat (first | with_reducible refine at_drewN ?_ _ | with_reducible refine at_drew ?_ | with_reducible refine at_alloc ?_ _ | with_reducible refine at_far ?_ (Aside0.out (by with_reducible assumption)) | with_reducible refine at_put ?_));refine at_end h_ ?_;kernel_rfl):Y:=k h.out
theorem zkc (o':Obj) (b:Aside0 (w0.heap[g]? = some o)) (hb:Below w.heap.size w w1) (k:w0.heap[g]? = some o→w.heap[g]? = some o':=by intro h_;exact zc ⟨h_⟩):Aside0 (w1.heap[g]? = some o'):=⟨blk_below (k b.out) hb⟩
theorem zlc {g':Nat} (o':Obj) (b:Aside0 (w0.heap[g]? = some o)) (hg:g'=w.heap.size) (k:w0.heap[g]? = some o→w.heap[g]? = some o':=by intro h_;exact zc ⟨h_⟩):Aside0 (g≠g'):=⟨by rw [hg];exact Nat.ne_of_lt (blk_lt (k b.out))⟩
theorem zgg {g':Nat} (o':Obj) (b:Aside0 (w0.heap[g]? = some o)) (hg:g'=w.heap.size) (k:w0.heap[g]? = some o→w.heap[g]? = some o':=by intro h_;exact zc ⟨h_⟩):Aside0 (g'≠g):=⟨by rw [hg];exact Nat.ne_of_gt (blk_lt (k b.out))⟩
theorem zB {X:Prop} (h:X:=by repeat (first | (with_reducible first | exact HB.out | apply below_alloc | apply pw_below_drewN | apply below_drew1 | refine below_set ?_ (Aside0.out (by with_reducible assumption))) | exact HB.out)):X:=h
theorem zK {X Y:Prop} (h:Aside0 X) (k:X→Y:=by intro h_;repeat (first | (with_reducible first | exact h_ | apply Kept.alloc | apply Kept.drewN | apply Kept.drew | refine Kept.setCell ?_ (.inr (Aside0.out (by with_reducible assumption))) _ | refine Kept.setCell ?_ (Aside0.out (by with_reducible assumption)) _) | exact h_)):Y:=k h.out
theorem zK1 (b:Aside0 (Kept w0 W S)) (k:Kept w0 W S→Kept w0 w S:=by intro h_;repeat (first | (with_reducible first | exact h_ | apply Kept.alloc | apply Kept.drewN | apply Kept.drew | refine Kept.setCell ?_ (.inr (Aside0.out (by with_reducible assumption))) _ | refine Kept.setCell ?_ (Aside0.out (by with_reducible assumption)) _) | exact h_)):w0.heap.size≤w.heap.size:=(k b.out).1
theorem zR {X Y:Prop} (h:Aside0 X) (k:X→Y:=by intro h_;(with_reducible repeat (first | apply Kd.R_alloc | apply Kd.R_drewN | apply Kd.R_drew));exact h_):Y:=k h.out
theorem zS {X Y:Prop} (h:Aside0 X) (k:X→Y:=by intro h_;(with_reducible repeat (first | apply Kd.S_alloc | apply Kd.S_drewN | apply Kd.S_drew));exact h_):Y:=k h.out
theorem zb {X Y:Prop} (h:Aside0 X) (k:X→Y:=by intro h_;(with_reducible repeat (first | refine blk_drewN ?_ _ | refine blk_drew ?_ | refine blk_alloc ?_ _));exact h_):Y:=k h.out
theorem zkb (b:Aside0 (w0.heap[g]? = some o)) (hb:Below w.heap.size w w1) (k:w0.heap[g]? = some o→w.heap[g]? = some o:=by intro h_;(with_reducible repeat (first | refine blk_drewN ?_ _ | refine blk_drew ?_ | refine blk_alloc ?_ _));exact h_):Aside0 (w1.heap[g]? = some o):=⟨blk_below (k b.out) hb⟩
theorem zkk (b:Aside0 (Kept w0 W S)) (hb:Below w.heap.size w w1) (k:Kept w0 W S→Kept w0 w S:=by intro h_;repeat (first | (with_reducible first | exact h_ | apply Kept.alloc | apply Kept.drewN | apply Kept.drew | refine Kept.setCell ?_ (.inr (Aside0.out (by with_reducible assumption))) _ | refine Kept.setCell ?_ (Aside0.out (by with_reducible assumption)) _) | exact h_)):Aside0 (Kept w0 w1 S):=⟨Kept.below (k b.out) hb⟩
theorem zbs (b:Aside0 (Below w0.heap.size w0 W)) (hb:Below w.heap.size w w1) (k:Below w0.heap.size w0 W→Below w0.heap.size w0 w:=by intro h_;repeat (first | (with_reducible first | exact h_ | apply below_alloc | apply pw_below_drewN | apply below_drew1 | refine below_set ?_ (Aside0.out (by with_reducible assumption))) | exact h_)):Aside0 (Below w0.heap.size w0 w1):=⟨below_step (k b.out) hb⟩
theorem zGE (b:Aside0 (Below w0.heap.size w0 W)) (hg:g=w.heap.size) (k:Below w0.heap.size w0 W→Below w0.heap.size w0 w:=by intro h_;repeat (first | (with_reducible first | exact h_ | apply below_alloc | apply pw_below_drewN | apply below_drew1 | refine below_set ?_ (Aside0.out (by with_reducible assumption))) | exact h_)):Aside0 (w0.heap.size≤g):=⟨by rw [hg];exact below_size (k b.out)⟩
theorem zGW (b:Aside0 (Kept w0 W S)) (hg:g=w.heap.size) (k:Kept w0 W S→Kept w0 w S:=by intro h_;repeat (first | (with_reducible first | exact h_ | apply Kept.alloc | apply Kept.drewN | apply Kept.drew | refine Kept.setCell ?_ (.inr (Aside0.out (by with_reducible assumption))) _ | refine Kept.setCell ?_ (Aside0.out (by with_reducible assumption)) _) | exact h_)):Aside0 (w0.heap.size≤g):=⟨by rw [hg];exact (k b.out).1⟩
theorem zNl {g':Nat} (b:Aside0 (w0.heap[g]? = some o)) (hg:g'=w.heap.size) (k:w0.heap[g]? = some o→w.heap[g]? = some o:=by intro h_;(with_reducible repeat (first | refine blk_drewN ?_ _ | refine blk_drew ?_ | refine blk_alloc ?_ _));exact h_):Aside0 (g≠g'):=⟨by rw [hg];exact Nat.ne_of_lt (blk_lt (k b.out))⟩
theorem zNg {g':Nat} (b:Aside0 (w0.heap[g]? = some o)) (hg:g'=w.heap.size) (k:w0.heap[g]? = some o→w.heap[g]? = some o:=by intro h_;(with_reducible repeat (first | refine blk_drewN ?_ _ | refine blk_drew ?_ | refine blk_alloc ?_ _));exact h_):Aside0 (g'≠g):=⟨by rw [hg];exact Nat.ne_of_gt (blk_lt (k b.out))⟩
theorem zCz (b:Aside0 (w.heap[g]? = some (.cells cs t (0,0)))) (i:Nat) (v:Value) (k:cs[i]? = some v:=by exact rfl):w.cell? ⟨g,i,none⟩=some v:=(blk_cell b.out i).trans k
theorem zCf (b:Aside0 (w.heap[g]? = some (.cells cs t (0,0)))) (i:Nat):w.frozen? ⟨g,i,none⟩=false:=blk_frozen b.out i
theorem zF1 {v0:Value} (b:Aside0 (w.heap[g]? = some (.cells #[v0] t (0,0)))):w.cell? ⟨g,0,none⟩=some v0∧∀ i,w.frozen? ⟨g,i,none⟩=false:=⟨zCz b 0 v0,zCf b⟩
theorem zF2 {v0 v1:Value} (b:Aside0 (w.heap[g]? = some (.cells #[v0,v1] t (0,0)))):w.cell? ⟨g,0,none⟩=some v0∧w.cell? ⟨g,1,none⟩=some v1∧∀ i,w.frozen? ⟨g,i,none⟩=false:=⟨zCz b 0 v0,zCz b 1 v1,zCf b⟩
theorem zF3 {v0 v1 v2:Value} (b:Aside0 (w.heap[g]? = some (.cells #[v0,v1,v2] t (0,0)))):w.cell? ⟨g,0,none⟩=some v0∧w.cell? ⟨g,1,none⟩=some v1∧w.cell? ⟨g,2,none⟩=some v2∧∀ i,w.frozen? ⟨g,i,none⟩=false:=⟨zCz b 0 v0,zCz b 1 v1,zCz b 2 v2,zCf b⟩
theorem zF4 {v0 v1 v2 v3:Value} (b:Aside0 (w.heap[g]? = some (.cells #[v0,v1,v2,v3] t (0,0)))):w.cell? ⟨g,0,none⟩=some v0∧w.cell? ⟨g,1,none⟩=some v1∧w.cell? ⟨g,2,none⟩=some v2∧w.cell? ⟨g,3,none⟩=some v3∧∀ i,w.frozen? ⟨g,i,none⟩=false:=⟨zCz b 0 v0,zCz b 1 v1,zCz b 2 v2,zCz b 3 v3,zCf b⟩
theorem zF8 {v0 v1 v2 v3 v4 v5 v6 v7:Value} (b:Aside0 (w.heap[g]? = some (.cells #[v0,v1,v2,v3,v4,v5,v6,v7] t (0,0)))):w.cell? ⟨g,0,none⟩=some v0∧w.cell? ⟨g,1,none⟩=some v1∧w.cell? ⟨g,2,none⟩=some v2∧w.cell? ⟨g,3,none⟩=some v3∧w.cell? ⟨g,4,none⟩=some v4∧w.cell? ⟨g,5,none⟩=some v5∧w.cell? ⟨g,6,none⟩=some v6∧w.cell? ⟨g,7,none⟩=some v7∧∀ i,w.frozen? ⟨g,i,none⟩=false:=⟨zCz b 0 v0,zCz b 1 v1,zCz b 2 v2,zCz b 3 v3,zCz b 4 v4,zCz b 5 v5,zCz b 6 v6,zCz b 7 v7,zCf b⟩
theorem zF11 {v0 v1 v2 v3 v4 v5 v6 v7 v8 v9 v10:Value} (b:Aside0 (w.heap[g]? = some (.cells #[v0,v1,v2,v3,v4,v5,v6,v7,v8,v9,v10] t (0,0)))):w.cell? ⟨g,0,none⟩=some v0∧w.cell? ⟨g,1,none⟩=some v1∧w.cell? ⟨g,2,none⟩=some v2∧w.cell? ⟨g,3,none⟩=some v3∧w.cell? ⟨g,4,none⟩=some v4∧w.cell? ⟨g,5,none⟩=some v5∧w.cell? ⟨g,6,none⟩=some v6∧w.cell? ⟨g,7,none⟩=some v7∧w.cell? ⟨g,8,none⟩=some v8∧w.cell? ⟨g,9,none⟩=some v9∧w.cell? ⟨g,10,none⟩=some v10∧∀ i,w.frozen? ⟨g,i,none⟩=false:=⟨zCz b 0 v0,zCz b 1 v1,zCz b 2 v2,zCz b 3 v3,zCz b 4 v4,zCz b 5 v5,zCz b 6 v6,zCz b 7 v7,zCz b 8 v8,zCz b 9 v9,zCz b 10 v10,zCf b⟩
end
theorem zMo {P:Prop} (h:P:=by repeat' first | (with_reducible exact LeO.refl _) | (with_reducible exact LeO.none _) | (with_reducible refine LeO.ite ?_ ?_) | (with_reducible refine LeO.bind ?_ (fun _=>?_)) | (with_reducible apply_assumption) | exact LeO.none _ | refine LeO.ite ?_ ?_ | refine LeO.bind ?_ (fun _=>?_)):P:=h
theorem zM0 {P:Prop} (h:P:=by intros;exact LeO.none _):P:=h
theorem zbd {α β:Type} {x:Option α} {f:α→Option β} {r:β} (h:x.bind f=some r):∃ a,Aside0 (x=some a)∧f a=some r:=by
 obtain ⟨a,h1,h2⟩:=Option.bind_eq_some_iff.mp h;exact ⟨a,⟨h1⟩,h2⟩
theorem zif {c:Prop} [Decidable c] {α:Type} {x y r:α} (h:(if c then x else y)=r):(c∧x=r)∨(¬ c∧y=r):=by
 by_cases hc:c
 ·rw [if_pos hc] at h;exact .inl ⟨hc,h⟩
 ·rw [if_neg hc] at h;exact .inr ⟨hc,h⟩
section
variable {c:Prop} [Decidable c] {α:Type} {x y r:α} {z:Option α}
theorem zdd (h:(if c then x else y)=r):(decide c=true∧x=r)∨(decide c=false∧y=r):=(zif h).imp (And.imp_left decide_eq_true) (And.imp_left decide_eq_false)
theorem zdg (h:(if c then x else y)=r):(c∧decide c=true∧x=r)∨(¬ c∧decide c=false∧y=r):=(zif h).imp (fun k=>⟨k.1,decide_eq_true k.1,k.2⟩) (fun k=>⟨k.1,decide_eq_false k.1,k.2⟩)
theorem zbb {β:Type} [BEq β] [LawfulBEq β] {a b:β} [Decidable (a=b)] (h:(if a=b then x else y)=r):((a == b)=true∧(a != b)=false∧x=r)∨(¬ a=b∧(a == b)=false∧(a != b)=true∧y=r):=(zif h).imp (fun k=>⟨beq_iff_eq.mpr k.1,bne_eq_false_iff_eq.mpr k.1,k.2⟩) (fun k=>⟨k.1,beq_eq_false_iff_ne.mpr k.1,bne_iff_ne.mpr k.1,k.2⟩)
theorem zin (h:(if c then z else none)=some r):c∧z=some r:=(zif h).elim id (fun k=>by cases k.2)
theorem zdn (h:(if c then z else none)=some r):decide c=true∧z=some r:=(zin h).imp_left decide_eq_true
theorem zen (h:(if c then z else none)=some r):c=True∧decide c=true∧z=some r:=⟨eq_true (zin h).1,decide_eq_true (zin h).1,(zin h).2⟩
theorem zcn (h:(if c then z else none)=some r):c∧c=True∧decide c=true∧z=some r:=⟨(zin h).1,zen h⟩
theorem zan (h:(if c then z else none)=some r):Aside0 c∧z=some r:=⟨⟨(zin h).1⟩,(zin h).2⟩
theorem zgn (h:(if c then z else none)=some r):c∧decide c=true∧z=some r:=⟨(zin h).1,zdn h⟩
end
theorem zY {p X T:Prop} (e:p) (H:X) (k:p→X→T:=by intro e_ H_;first | (rw [e_];with_reducible exact H_) | (have H2_:=(Option.bind_some _ _).symm.trans H_;rw [e_];with_reducible exact H2_) | (have H2_:=(Option.bind_some _ _).symm.trans H_;with_reducible exact H2_) | with_reducible exact H_ | (rw [e_];exact H_) | exact H_):T:=k e H
theorem zJ {p X T:Prop} (e:p) (H:X) (k:p→X→T:=by intro e_ H_;first | (rw [e_] at H_;exact H_) | (simp only [e_] at H_ ⊢;exact H_)):T:=k e H
theorem zj {α:Type} (x:α):∃ y,x=y:=⟨_,rfl⟩
theorem zy {α:Type} (x:α):∃ y,y=x:=⟨_,rfl⟩
theorem zT {X:Prop} (h:X) {T:Prop} (k:X→T:=by intro H;rw [if_pos rfl] at H;exact H):T:=k h
theorem zD {p:Prop} [Decidable p] (h:decide p=true:=by first | (with_reducible assumption) | assumption):p:=of_decide_eq_true h
theorem zE {p:Prop} (h:p:=by first | rfl | (simp;done) | (simp [*];done)):p:=h
theorem zW {p:Prop} (h:p:=by first | rfl | (simp [errW_none,errW_some]<;>rfl) | (simp [*,errW_none,errW_some]<;>rfl)):p:=h
theorem zDr {p:Prop} (h:p:=by repeat (first | exact Drawn0.refl _ | apply Drawn0.step)):p:=h
end Go.Proofs.YtninnmdpnoebaaaGreatDoor.Sq
end
section
namespace Go.Proofs.YtninnmdpnoebaaaGreatDoor.PRa
open Go.Proofs.YtninnmdpnoebaaaGreatDoor.Sq Go.Proofs.YtninnmdpnoebaaaGreatDoor.Hand Go.RowKit Go.Proofs.YtninnmdpnoebaaaGreatDoorW.PrintWords Go.Proofs.YtninnmdpnoebaaaGreatDoorW.PrintLast Go.Proofs.YtninnmdpnoebaaaGreatDoorW.PrintMore
attribute [local go_sem] max2_int min2_int max_two min_two max_three min_three max_four min_four
set_option linter.unusedVariables false
set_option linter.unusedSimpArgs false
def errW:Option Int→Value
 | none=>.nilIface
 | some c=>.iface 0 (.int .i64 c)
theorem errW_none:errW none=.nilIface:=rfl
theorem errW_some (c:Int):errW (some c)=.iface 0 (.int .i64 c):=rfl
theorem info3:(Tryz.prog.info? 3).map (fun i=>(i.zero,i.size,i.bytes))=some (some (.int .i64 0),1,8):=by kernel_rfl
theorem info4:(Tryz.prog.info? 4).map (fun i=>(i.zero,i.size,i.bytes))=some (some (.bool false),1,1):=by kernel_rfl
theorem info5:(Tryz.prog.info? 5).map (fun i=>(i.zero,i.size,i.bytes))=some (some (.int .u8 0),1,1):=by kernel_rfl
theorem info9:(Tryz.prog.info? 9).map (fun i=>(i.zero,i.size,i.bytes))=some (some (.string ⟨#[]⟩),1,16):=by kernel_rfl
theorem info75:(Tryz.prog.info? 75).map (fun i=>(i.zero,i.size,i.bytes))=some (some (.agg #[(.string ⟨#[]⟩),(.int .i64 0),(.string ⟨#[]⟩)]),3,40):=by kernel_rfl
theorem info98:(Tryz.prog.info? 98).map (fun i=>(i.zero,i.size,i.bytes))=some (some (.slice none 0 0),1,24):=by kernel_rfl
theorem info106:(Tryz.prog.info? 106).map (fun i=>(i.zero,i.size,i.bytes))=some (some (.slice none 0 0),1,24):=by kernel_rfl
theorem info110:(Tryz.prog.info? 110).map (fun i=>(i.zero,i.size,i.bytes))=some (some (.agg #[(.int .i64 0),(.string ⟨#[]⟩),(.string ⟨#[]⟩)]),3,40):=by kernel_rfl
theorem info163:(Tryz.prog.info? 163).map (fun i=>(i.zero,i.size,i.bytes))=some (some (.int .u32 0),1,4):=by kernel_rfl
structure S110 where
 f0:Int
 f1:ByteArray
 f2:ByteArray
def z110:S110:=⟨(0:Int),(⟨#[]⟩:ByteArray),(⟨#[]⟩:ByteArray)⟩
def k110:Kd S110:=Kd.iso (Kd.pair (Kd.int .i64) (Kd.pair Kd.string Kd.string)) (fun x:S110=>(x.f0,x.f1,x.f2))
theorem k110_open {w:World} {x:S110} {cs:List Value} (h:k110.K w x cs):cs=[.int .i64 x.f0,.string x.f1,.string x.f2]:=by
 obtain ⟨_,_,rfl,rfl,⟨_,_,rfl,rfl,rfl⟩⟩:=h;exact rfl
theorem k110_mkM (w:World) (base:Nat) (ok:Nat→Prop) (x:S110) :k110.M w base ok x [.int .i64 x.f0,.string x.f1,.string x.f2]:=⟨[.int .i64 x.f0],[.string x.f1,.string x.f2],rfl,rfl,⟨[.string x.f1],[.string x.f2],rfl,rfl,rfl⟩⟩
def rd_T110 (xs:List S110) (i:Int):S110:=xs.getD i.toNat z110
theorem at_T110 {w:World} {A:Option Addr} {n:Nat} {xs:List S110} (h:Kd.C k110 w A n xs) (i:Int) (h0:0≤i) (h1:i < n):∃ ad ,A=some ad∧w.cell? (ad.add (i.toNat*3))=some (.int .i64 (rd_T110 xs i).f0)∧w.cell? ⟨(ad.add (i.toNat*3)).block,(ad.add (i.toNat*3)).off+1,none⟩=some (.string (rd_T110 xs i).f1)∧w.cell? ⟨(ad.add (i.toNat*3)).block,(ad.add (i.toNat*3)).off+2,none⟩=some (.string (rd_T110 xs i).f2):=by
 obtain ⟨ad,c,e,_,hK,hc0⟩:=Kd.C_get h z110 i h0 h1;have hc:∀ j u,c[j]? = some u→w.cell? (ad.add (i.toNat*3+j))=some u:=hc0;obtain rfl:=k110_open hK;exact ⟨ad,e,hc 0 _ rfl,by rw [← add_field _ _ 1 (by omega)];exact hc 1 _ rfl,by rw [← add_field _ _ 2 (by omega)];exact hc 2 _ rfl⟩
structure S75 where
 f0:ByteArray
 f1:Int
 f2:ByteArray
def z75:S75:=⟨(⟨#[]⟩:ByteArray),(0:Int),(⟨#[]⟩:ByteArray)⟩
def k75:Kd S75:=Kd.iso (Kd.pair Kd.string (Kd.pair (Kd.int .i64) Kd.string)) (fun x:S75=>(x.f0,x.f1,x.f2))
theorem k75_open {w:World} {x:S75} {cs:List Value} (h:k75.K w x cs):cs=[.string x.f0,.int .i64 x.f1,.string x.f2]:=by
 obtain ⟨_,_,rfl,rfl,⟨_,_,rfl,rfl,rfl⟩⟩:=h;exact rfl
theorem k75_mkM (w:World) (base:Nat) (ok:Nat→Prop) (x:S75) :k75.M w base ok x [.string x.f0,.int .i64 x.f1,.string x.f2]:=⟨[.string x.f0],[.int .i64 x.f1,.string x.f2],rfl,rfl,⟨[.int .i64 x.f1],[.string x.f2],rfl,rfl,rfl⟩⟩
def rd_T75 (xs:List S75) (i:Int):S75:=xs.getD i.toNat z75
theorem at_T75 {w:World} {A:Option Addr} {n:Nat} {xs:List S75} (h:Kd.C k75 w A n xs) (i:Int) (h0:0≤i) (h1:i < n):∃ ad ,A=some ad∧w.cell? (ad.add (i.toNat*3))=some (.string (rd_T75 xs i).f0)∧w.cell? ⟨(ad.add (i.toNat*3)).block,(ad.add (i.toNat*3)).off+1,none⟩=some (.int .i64 (rd_T75 xs i).f1)∧w.cell? ⟨(ad.add (i.toNat*3)).block,(ad.add (i.toNat*3)).off+2,none⟩=some (.string (rd_T75 xs i).f2):=by
 obtain ⟨ad,c,e,_,hK,hc0⟩:=Kd.C_get h z75 i h0 h1;have hc:∀ j u,c[j]? = some u→w.cell? (ad.add (i.toNat*3+j))=some u:=hc0;obtain rfl:=k75_open hK;exact ⟨ad,e,hc 0 _ rfl,by rw [← add_field _ _ 1 (by omega)];exact hc 1 _ rfl,by rw [← add_field _ _ 2 (by omega)];exact hc 2 _ rfl⟩
def rd_L6 (xs:List (List Int)) (i:Int):(List Int):=xs.getD i.toNat ([]:List Int)
theorem at_L6 {w:World} {A:Option Addr} {n:Nat} {xs:List (List Int)} (h:Kd.C (Kd.slice 3 (Kd.int .i64)) w A n xs) (i:Int) (h0:0≤i) (h1:i < n):∃ ad A0 c0,A=some ad∧w.cell? (ad.add i.toNat)=some (.slice A0 (rd_L6 xs i).length c0)∧(rd_L6 xs i).length≤c0∧(Kd.int .i64).C w A0 (rd_L6 xs i).length (rd_L6 xs i):=by
 obtain ⟨ad,c,e,_,hK,hc0⟩:=Kd.C_get h ([]:List Int) i h0 h1;have hc:∀ j u,c[j]? = some u→w.cell? (ad.add (i.toNat*1+j))=some u:=hc0;obtain ⟨A0,c0,rfl,l0,g0⟩:=hK;exact ⟨ad,A0,c0,e,by have hq:=hc 0 _ rfl;rwa [Nat.mul_one,Nat.add_zero] at hq,l0,g0⟩
def rd_L8 (xs:List (List S110)) (i:Int):(List S110):=xs.getD i.toNat ([]:List S110)
theorem at_L8 {w:World} {A:Option Addr} {n:Nat} {xs:List (List S110)} (h:Kd.C (Kd.slice 110 k110) w A n xs) (i:Int) (h0:0≤i) (h1:i < n):∃ ad A0 c0,A=some ad∧w.cell? (ad.add i.toNat)=some (.slice A0 (rd_L8 xs i).length c0)∧(rd_L8 xs i).length≤c0∧k110.C w A0 (rd_L8 xs i).length (rd_L8 xs i):=by
 obtain ⟨ad,c,e,_,hK,hc0⟩:=Kd.C_get h ([]:List S110) i h0 h1;have hc:∀ j u,c[j]? = some u→w.cell? (ad.add (i.toNat*1+j))=some u:=hc0;obtain ⟨A0,c0,rfl,l0,g0⟩:=hK;exact ⟨ad,A0,c0,e,by have hq:=hc 0 _ rfl;rwa [Nat.mul_one,Nat.add_zero] at hq,l0,g0⟩
structure S263 where
 f0:ByteArray
 f1:ByteArray
 f2:ByteArray
def k263:Kd S263:=Kd.iso (Kd.pair Kd.string (Kd.pair Kd.string Kd.string)) (fun x:S263=>(x.f0,x.f1,x.f2))
structure S51 where
 f0:ByteArray
 f1:ByteArray
 f2:Int
 f3:Int
def z51:S51:=⟨(⟨#[]⟩:ByteArray),(⟨#[]⟩:ByteArray),(0:Int),(0:Int)⟩
def k51:Kd S51:=Kd.iso (Kd.pair Kd.string (Kd.pair Kd.string (Kd.pair (Kd.int .i64) (Kd.int .i64)))) (fun x:S51=>(x.f0,x.f1,x.f2,x.f3))
structure S270 where
 f0:ByteArray
 f1:ByteArray
 f2:S51
 f3:ByteArray
def k270:Kd S270:=Kd.iso (Kd.pair Kd.string (Kd.pair Kd.string (Kd.pair k51 Kd.string))) (fun x:S270=>(x.f0,x.f1,x.f2,x.f3))
structure S266 where
 f0:ByteArray
 f1:(List S270)
def k266:Kd S266:=Kd.iso (Kd.pair Kd.string (Kd.slice 270 k270)) (fun x:S266=>(x.f0,x.f1))
end Go.Proofs.YtninnmdpnoebaaaGreatDoor.PRa
end
section
namespace Go.Proofs.YtninnmdpnoebaaaGreatDoor.Hand
open Go.RowKit Go.Proofs.YtninnmdpnoebaaaGreatDoorW.PrintWords Go.Proofs.YtninnmdpnoebaaaGreatDoorW.PrintLast Go.Proofs.YtninnmdpnoebaaaGreatDoorW.PrintMore
open Go.Proofs.YtninnmdpnoebaaaGreatDoor.PRa
set_option linter.unusedVariables false
set_option linter.unusedSimpArgs false
theorem cmp_spec:∀ (x y:List UInt8),(Lib.compareBytes x y < 0↔Op.bytesLess x y=true)∧(Lib.compareBytes x y=0↔x=y)
 | [],[]=>by simp [Lib.compareBytes,Op.bytesLess]
 | [],_ :: _=>by simp [Lib.compareBytes,Op.bytesLess]
 | _ :: _,[]=>by simp [Lib.compareBytes,Op.bytesLess]
 | a :: as1,b :: bs=>by
  have ih:=cmp_spec as1 bs;unfold Lib.compareBytes Op.bytesLess;by_cases h1:a < b
  ·have hne:a≠b:=fun e=>by subst e;exact absurd h1 (UInt8.lt_irrefl _)
   simp [h1,hne]
  ·by_cases h2:b < a
   ·have hne:a≠b:=fun e=>by subst e;exact absurd h2 (UInt8.lt_irrefl _)
    simp [h1,h2,hne]
   ·have he:a=b:=UInt8.le_antisymm (UInt8.not_lt.1 h2) (UInt8.not_lt.1 h1);subst he;simp [h1,ih.1,ih.2]
def halveQ (less:Nat→Bool):Nat→Nat→Nat→Nat
 | 0,lo,_=>lo
 | f+1,lo,hi=>if lo < hi then (if less ((lo+hi) / 2)=true then halveQ less f ((lo+hi) / 2+1) hi else halveQ less f lo ((lo+hi) / 2)) else lo
theorem halveQ_fuel (less:Nat→Bool):∀ (f g lo hi:Nat),hi - lo≤f→hi - lo≤g→halveQ less f lo hi=halveQ less g lo hi
 | 0,0,_,_,_,_=>rfl
 | 0,g+1,lo,hi,hf,_=>by simp [halveQ,show ¬ lo < hi by omega]
 | f+1,0,lo,hi,_,hg=>by simp [halveQ,show ¬ lo < hi by omega]
 | f+1,g+1,lo,hi,hf,hg=>by
  unfold halveQ;by_cases h:lo < hi
  ·rw [if_pos h,if_pos h,halveQ_fuel less f g _ _ (by omega) (by omega),halveQ_fuel less f g lo _ (by omega) (by omega)]
  ·rw [if_neg h,if_neg h]
theorem halveQ_step (less:Nat→Bool) (lo hi:Nat) (h:lo < hi):halveQ less (hi - lo) lo hi=if less ((lo+hi) / 2)=true then halveQ less (hi - ((lo+hi) / 2+1)) ((lo+hi) / 2+1) hi else halveQ less ((lo+hi) / 2 - lo) lo ((lo+hi) / 2):=by
 obtain ⟨f,hf⟩:∃ f,hi - lo=f+1:=⟨hi - lo - 1,by omega⟩;rw [hf,halveQ,if_pos h,halveQ_fuel less f (hi - ((lo+hi) / 2+1)) _ _ (by omega) (by omega),halveQ_fuel less f ((lo+hi) / 2 - lo) _ _ (by omega) (by omega)]
def placeQ (l:List S75) (id:ByteArray):Nat:=halveQ (fun t=>Op.bytesLess (l.getD t z75).f0.toList id.toList) l.length 0 l.length
def isQ (l:List S75) (id:ByteArray):Bool:=decide (placeQ l id < l.length∧(l.getD (placeQ l id) z75).f0=id)
set_option maxHeartbeats 4000000 in
set_option maxRecDepth 100000 in
theorem place1_any (i b id:ByteArray) (k:Int) (w:World):Calls Tryz.prog 137 #[.agg #[.string i,.int .i64 k,.string b],.string id] w fun e w'=>e=.returned (.int .i64 (Lib.compareBytes i.data.toList id.data.toList))∧Below w.heap.size w w':=by
 have hc:=Tryz.strings_Compare i id (w.alloc (.cells #[.string i,.int .i64 k,.string b] 75));have HB:=Lib.hid ((Below.refl w.heap.size w).alloc (Nat.le_refl _) (.cells #[.string i,.int .i64 k,.string b] 75));have HX:=Lib.hid hc;clear hc;go_enter Tryz.func137,Tryz.ntmps137;go_wp2_with fail;refine HX.out.mono ?_;rintro e w1 ⟨rfl,rfl⟩;go_wp2;refine bodyPost_ret (results_tmp rfl _ _ _) rfl ?_;exact ⟨rfl,HB.out⟩
theorem wrap_mid {lo hi:Nat} (h1:lo≤hi) (h2:hi≤4611686018427387903):IntKind.i64.wrap ((lo:Int)+(hi:Int))=(lo:Int)+(hi:Int)∧wrap64 ((lo:Int)+(hi:Int))=(lo:Int)+(hi:Int)∧IntKind.u64.wrap ((lo:Int)+(hi:Int))=(lo:Int)+(hi:Int)∧IntKind.i64.wrap (((lo:Int)+(hi:Int)) / 2)=(((lo+hi) / 2:Nat):Int):=by
 refine ⟨by rw [i64_w];exact wrap64_id (by omega) (by omega),wrap64_id (by omega) (by omega),?_,by rw [i64_w,wrap64_id (by omega) (by omega)];omega⟩;have hp:(2:Int) ^ IntKind.u64.bits=18446744073709551616:=rfl;simp only [IntKind.wrap];rw [hp];rw [Int.emod_eq_of_lt (a:=(lo:Int)+(hi:Int)) (b:=18446744073709551616) (by omega) (by omega)];simp [IntKind.signed]
set_option maxHeartbeats 4000000 in
set_option maxRecDepth 100000 in
theorem bsf_any (A:Option Addr) (c:Nat) (l:List S75) (id:ByteArray) (w:World) (hC:Kd.C k75 w A l.length l) (hl:l.length≤4611686018427387903) :
  Calls Tryz.prog 136 #[.slice A l.length c,.string id,.func (.func 137) #[] #[]] w fun e w'=>e=.returned (.tuple #[.int .i64 (placeQ l id:Nat),.bool (isQ l id)])∧Below w.heap.size w w':=by
 have HC:=Lib.hid hC;obtain ⟨less,hless⟩:∃ less:Nat→Bool,(fun t=>Op.bytesLess (l.getD t z75).f0.toList id.toList)=less:=⟨_,rfl⟩;have HLS:=Lib.hid hless;have hpl:placeQ l id=halveQ less (l.length - 0) 0 l.length:=by unfold placeQ;rw [hless];rfl
 obtain ⟨q,hq⟩:∃ q,placeQ l id=q:=⟨_,rfl⟩;rw [hq] at hpl ⊢;have hisq:isQ l id=decide (q < l.length∧(l.getD q z75).f0=id):=by unfold isQ;rw [hq]
 have HIS:=Lib.hid hisq;have HPL:=Lib.hid hpl;clear hC hless hpl hq hisq;go_enter Tryz.func136,Tryz.ntmps136;go_wp2;go_loopw [9,10] (fun lv hv wr=>∃ lo hi:Nat,lv=.int .i64 lo∧hv=.int .i64 hi∧q=halveQ less (hi - lo) lo hi∧lo≤hi∧hi≤l.length∧Below w.heap.size w wr) (fun lv hv _=>(intOf hv).toNat - (intOf lv).toNat)
 case atStart=>exact ⟨0,l.length,rfl,rfl,HPL.out,Nat.zero_le _,Nat.le_refl _,Below.refl _ _⟩
 case round =>
  obtain ⟨lo,hi,rfl,rfl,hH,b1,b2,hB⟩:=hrel;clear HPL;have HH:=Lib.hid hH;have HB:=Lib.hid hB;by_cases ci:(lo:Int) < (hi:Int)
  ·have cb:decide ((lo:Int) < (hi:Int))=true:=decide_eq_true ci;obtain ⟨e1,e1',e2,e3⟩:=wrap_mid b1 (Nat.le_trans b2 hl);obtain ⟨m,hm⟩:∃ m,(lo+hi) / 2=m:=⟨_,rfl⟩;have hst:=halveQ_step less lo hi (by omega);rw [hm] at e3 hst;have m1:lo≤m:=by omega
   have m2:m < hi:=by omega
   have m0:0≤(m:Int):=by omega
   have m3:(m:Int) < (l.length:Int):=by omega
   have e4:IntKind.i64.wrap ((m:Int)+1)=(m:Int)+1:=by rw [i64_w];exact wrap64_id (by omega) (by omega)
   obtain ⟨ad,rfl,h0,h1,h2⟩:=at_T75 (Kd.C_below HC.out hB) (m:Int) m0 m3;have hg:rd_T75 l (m:Int)=l.getD m z75:=by simp [rd_T75]
   have hlm:less m=Op.bytesLess (l.getD m z75).f0.toList id.toList:=by rw [← HLS.out]
   rw [hg] at h0 h1 h2;simp only [Int.toNat_natCast] at h0 h1 h2;have hsp:=cmp_spec (l.getD m z75).f0.data.toList id.data.toList;rw [← bl_toList,← bl_toList] at hsp;generalize l.getD m z75=x at *;obtain ⟨x0,x1,x2⟩:=x;simp only at h0 h1 h2 hlm hsp;have HX:=Lib.hid (place1_any x0 x2 id x1 wr);generalize hcv:Lib.compareBytes x0.data.toList id.data.toList=cv at *;rw [bl_toList,bl_toList,hcv,← bl_toList,← bl_toList] at hsp;have hmono:=HB.out.size;clear hH hB;by_cases cc:cv < 0
   ·have ccb:decide (cv < 0)=true:=decide_eq_true cc;have hlt:less m=true:=by rw [hlm];exact hsp.1.1 cc
    rw [if_pos hlt] at hst;have HN:=Lib.hid (HH.out.trans hst);clear HH hst hsp hlt hlm HLS HIS;go_wp2_with fail;refine HX.out.mono ?_;rintro e w1 ⟨rfl,hb1⟩;have HB1:=Lib.hid (HB.out.trans (hb1.mono hmono));clear hb1;go_wp2;exact ⟨⟨m+1,hi,by simp,rfl,HN.out,by omega,b2,HB1.out⟩,by simp [intOf];omega⟩
   ·have ccb:decide (cv < 0)=false:=decide_eq_false cc;have hlt:¬ (less m=true):=by rw [hlm];exact fun h=>cc (hsp.1.2 h)
    rw [if_neg hlt] at hst;have HN:=Lib.hid (HH.out.trans hst);clear HH hst hsp hlt hlm HLS HIS;go_wp2_with fail;refine HX.out.mono ?_;rintro e w1 ⟨rfl,hb1⟩;have HB1:=Lib.hid (HB.out.trans (hb1.mono hmono));clear hb1;go_wp2;exact ⟨⟨lo,m,rfl,rfl,HN.out,by omega,by omega,HB1.out⟩,by simp [intOf];omega⟩
  ·have cb:decide ((lo:Int) < (hi:Int))=false:=decide_eq_false ci;obtain rfl:lo=hi:=by omega
   have hql:q=lo:=by rw [hH,Nat.sub_self];rfl
   subst hql;by_cases cl:(q:Int) < (l.length:Int)
   ·have clb:decide ((q:Int) < (l.length:Int))=true:=decide_eq_true cl;have l0:0≤(q:Int):=by omega
    obtain ⟨ad,rfl,h0,h1,h2⟩:=at_T75 (Kd.C_below HC.out hB) (q:Int) l0 cl;have hg:rd_T75 l (q:Int)=l.getD q z75:=by simp [rd_T75]
    rw [hg] at h0 h1 h2;simp only [Int.toNat_natCast] at h0 h1 h2;have his:=HIS.out;have hsp:=cmp_spec (l.getD q z75).f0.data.toList id.data.toList;have hqn:q < l.length:=by omega
    generalize l.getD q z75=x at *;obtain ⟨x0,x1,x2⟩:=x;simp only at h0 h1 h2 his hsp;have HX:=Lib.hid (place1_any x0 x2 id x1 wr);generalize Lib.compareBytes x0.data.toList id.data.toList=cv at *;have hmono:=HB.out.size;have hfin:(cv == 0)=isQ l id:=by
     rw [his];by_cases cz:cv=0
     ·have:x0=id:=by
       have h:=hsp.2.1 cz;cases x0;cases id;simpa using h
      simp [cz,this,hqn]
     ·have:x0≠id:=fun e=>cz (hsp.2.2 (by rw [e]));simp [cz,this]
    have HFIN:=Lib.hid hfin;clear hH hB HH his hsp hfin HIS HLS;go_wp2_with fail;refine HX.out.mono ?_;rintro e w1 ⟨rfl,hb1⟩;have HB1:=Lib.hid (HB.out.trans (hb1.mono hmono));clear hb1;go_wp2;refine bodyPost_ret (results_tmp2 rfl _ _ _) rfl ?_;exact ⟨by rw [← HFIN.out];rfl,HB1.out⟩
   ·have clb:decide ((q:Int) < (l.length:Int))=false:=decide_eq_false cl;have hin:isQ l id=false:=by rw [HIS.out];exact decide_eq_false (fun h=>by omega)
    have HIN:=Lib.hid hin;clear hH hB HH hin HIS HLS;go_wp2;refine bodyPost_ret (results_tmp2 rfl _ _ _) rfl ?_;exact ⟨by rw [HIN.out];rfl,HB.out⟩
end Go.Proofs.YtninnmdpnoebaaaGreatDoor.Hand
end
section
namespace Go.Proofs.YtninnmdpnoebaaaGreatDoor.Hand
open Go.RowKit Go.Proofs.YtninnmdpnoebaaaGreatDoorW.PrintWords Go.Proofs.YtninnmdpnoebaaaGreatDoorW.PrintLast Go.Proofs.YtninnmdpnoebaaaGreatDoorW.PrintMore
open Go.Proofs.YtninnmdpnoebaaaGreatDoor.PRa
set_option linter.unusedVariables false
set_option linter.unusedSimpArgs false
set_option maxHeartbeats 4000000 in
set_option maxRecDepth 100000 in
theorem place_any (A:Option Addr) (c:Nat) (l:List S75) (id:ByteArray) (w:World) (hC:Kd.C k75 w A l.length l) (hl:l.length≤4611686018427387903) :
  Calls Tryz.prog 116 #[.agg #[.slice A l.length c],.string id] w fun e w'=>e=.returned (.tuple #[.int .i64 (placeQ l id:Nat),.bool (isQ l id)])∧Below w.heap.size w w':=by
 have hb0:Below w.heap.size w (w.alloc (.cells #[.slice A l.length c] 175)):=(Below.refl _ w).alloc (Nat.le_refl _) _;have HX:=Lib.hid (bsf_any A c l id (w.alloc (.cells #[.slice A l.length c] 175)) (Kd.C_below hC hb0) hl);have HB0:=Lib.hid hb0;clear hC hb0;go_enter Tryz.func116,Tryz.ntmps116;go_wp2_with fail;refine HX.out.mono ?_;rintro e w1 ⟨rfl,hb1⟩;have HB1:=Lib.hid (HB0.out.trans (hb1.mono HB0.out.size));clear hb1;go_wp2;refine bodyPost_ret (results_tmp2 rfl _ _ _) rfl ?_;exact ⟨rfl,HB1.out⟩
set_option maxHeartbeats 4000000 in
set_option maxRecDepth 100000 in
theorem of_any (i b:ByteArray) (k:Int) (w:World):Calls Tryz.prog 117 #[.agg #[.string i,.int .i64 k,.string b]] w fun e w'=>e=.returned (.agg #[.int .i64 k,.string b])∧Below w.heap.size w w':=by
 have hb0:Below w.heap.size w ((w.alloc (.cells #[.string i,.int .i64 k,.string b] 75)).alloc (.cells #[.int .i64 k,.string b] 60)):=((Below.refl _ w).alloc (Nat.le_refl _) _).alloc (by simp) _;have HB0:=Lib.hid hb0;clear hb0;go_enter Tryz.func117,Tryz.ntmps117;go_wp2;refine bodyPost_ret (results_cell_row rfl _ _ (w.heap.size+1) 60 _ (0,0) _ rfl (by rw [show w.heap.size+1=(w.alloc (.cells #[.string i,.int .i64 k,.string b] 75)).heap.size from (Array.size_push _).symm];exact heap_alloc_new _ _) Tryz.underlying60 rfl (by kernel_rfl)) rfl ?_;exact ⟨rfl,HB0.out⟩
theorem results_ch {P:Program} {fn:Func} {p u:Tmp} {ty:TypeId} (h:fn.results=#[.cell p ty,.tmp u]) (tmps:Array Value) (w:World) (g:Nat) (t:TypeId) (cs:Array Value) (fr:Nat × Nat) (d:TypeDesc)
  (hp:tmps.getD p undef=.pointer (some ⟨g,0,none⟩)) (hg:w.heap[g]? = some (.cells cs t fr))
  (hu:P.underlying ty=some d) (hd:(match d with | .struct _ | .array _ _=>true | _=>false)=true) (hi:(P.info? ty).map (·.size)=some cs.size) :
  (results fn tmps).run P w=.ok (.tuple #[.agg cs,tmps.getD u undef]) w:=by
 rw [results_cell_tmp h,hp];simp [asAddr,run_loadVar_row w g t ty cs fr d hg hu hd hi,Result.andThen]
theorem ob_set {w:World} {g:Nat} {a0 a1:Value} (h:w.heap[g]? = some (.cells #[a0,a1] 60 (0,0))) (u v:Value):((w.setCell ⟨g,0,none⟩ u).setCell ⟨g,1,none⟩ v).heap[g]? = some (.cells #[u,v] 60 (0,0)):=by
 have:=blk_set (blk_set h 0 u) 1 v;simpa using this
theorem below_two {w w':World} {g:Nat} (h:Below w.heap.size w w') (hg:w.heap.size≤g) (u v:Value):Below w.heap.size w ((w'.setCell ⟨g,0,none⟩ u).setCell ⟨g,1,none⟩ v):=Below.setCell (Below.setCell h (p:=⟨g,0,none⟩) hg u) (p:=⟨g,1,none⟩) hg v
def getQ (l:List S75) (id:ByteArray):(Int × ByteArray) × Int:=if isQ l id=true then (((l.getD (placeQ l id) z75).f1,(l.getD (placeQ l id) z75).f2),0) else ((0,⟨#[]⟩),5)
theorem isQ_lt {l:List S75} {id:ByteArray} (h:isQ l id=true):placeQ l id < l.length:=(of_decide_eq_true h).1
set_option maxHeartbeats 4000000 in
set_option maxRecDepth 100000 in
theorem get_any (A:Option Addr) (c:Nat) (l:List S75) (id:ByteArray) (w:World) (hC:Kd.C k75 w A l.length l) (hl:l.length≤4611686018427387903) :
  Calls Tryz.prog 90 #[.agg #[.slice A l.length c],.string id] w fun e w'=>e=.returned (.tuple #[.agg #[.int .i64 (getQ l id).1.1,.string (getQ l id).1.2],.int .i64 (getQ l id).2])∧Below w.heap.size w w':=by
 generalize hw2:(w.alloc (.cells #[.slice A l.length c] 24)).alloc (.cells #[.int .i64 0,.string ⟨#[]⟩] 60)=w2;have hz1:(w.alloc (.cells #[.slice A l.length c] 24)).heap.size=w.heap.size+1:=Array.size_push _;have hb2:Below w.heap.size w w2:=by rw [← hw2];exact ((Below.refl _ w).alloc (Nat.le_refl _) _).alloc (by omega) _
 have k0:w2.heap[w.heap.size]? = some (.cells #[.slice A l.length c] 24 (0,0)):=by rw [← hw2,heap_alloc_old _ _ (by omega)];exact heap_alloc_new _ _
 have k1:w2.heap[w.heap.size+1]? = some (.cells #[.int .i64 0,.string ⟨#[]⟩] 60 (0,0)):=by rw [← hw2,← hz1];exact heap_alloc_new _ _
 have HX:=Lib.hid (place_any A c l id w2 (Kd.C_below hC hb2) hl);have HB2:=Lib.hid hb2;have HK0:=Lib.hid k0;have HK1:=Lib.hid k1;have HC:=Lib.hid hC;have HW2:=Lib.hid hw2;obtain ⟨g,hg⟩:∃ g,getQ l id=g:=⟨_,rfl⟩;rw [hg];have HG:=Lib.hid hg;clear hw2 hb2 k0 k1 hC hg hz1;go_enter Tryz.func90,Tryz.ntmps90;go_upto_region 1 with (fail);rw [HW2.out];have q0:w2.cell? ⟨w.heap.size,0,none⟩=some (.slice A l.length c):=by rw [blk_cell HK0.out 0];rfl
 go_wp2_with fail;refine HX.out.mono ?_;rintro e w3 ⟨rfl,hb3⟩;have k03:=(hb3.block _ (lt_of_block HK0.out)).trans HK0.out;have k13:=(hb3.block _ (lt_of_block HK1.out)).trans HK1.out;have HB3:=Lib.hid (HB2.out.trans (hb3.mono HB2.out.size));have HK03:=Lib.hid k03;have HK13:=Lib.hid k13;clear hb3 k03 k13;cases hi:isQ l id with
 | false =>
  have c0:w3.cell? ⟨w.heap.size+1,0,none⟩=some (.int .i64 0):=by rw [blk_cell HK13.out 0];rfl
  have c1:w3.cell? ⟨w.heap.size+1,1,none⟩=some (.string ⟨#[]⟩):=by rw [blk_cell HK13.out 1];rfl
  have f0:=blk_frozen HK13.out 0;have f1:=blk_frozen HK13.out 1;have HS:=Lib.hid (ob_set HK13.out (.int .i64 0) (.string ⟨#[]⟩));have HBW:=Lib.hid (below_two HB3.out (g:=w.heap.size+1) (by omega) (.int .i64 0) (.string ⟨#[]⟩));have hgq:g=((0,⟨#[]⟩),5):=by rw [← HG.out,getQ,if_neg (by rw [hi];simp)]
  subst hgq;go_wp2;refine bodyPost_ret (results_ch rfl _ _ (w.heap.size+1) 60 _ (0,0) _ rfl HS.out Tryz.underlying60 rfl (by kernel_rfl)) rfl ?_;exact ⟨rfl,HBW.out⟩
 | true =>
  have hlt:=isQ_lt hi;have hgq:g=(((l.getD (placeQ l id) z75).f1,(l.getD (placeQ l id) z75).f2),0):=by rw [← HG.out,getQ,if_pos hi]
  have p0:0≤((placeQ l id:Nat):Int):=by omega
  have p1:((placeQ l id:Nat):Int) < (l.length:Int):=by omega
  obtain ⟨ad,rfl,h0,h1,h2⟩:=at_T75 (Kd.C_below HC.out HB3.out) ((placeQ l id:Nat):Int) p0 p1;have hg:rd_T75 l ((placeQ l id:Nat):Int)=l.getD (placeQ l id) z75:=by simp [rd_T75]
  rw [hg] at h0 h1 h2;simp only [Int.toNat_natCast] at h0 h1 h2;have q3:w3.cell? ⟨w.heap.size,0,none⟩=some (.slice (some ad) l.length c):=by rw [blk_cell HK03.out 0];rfl
  clear HG hi hg HX HC HK0 HK1 HW2;generalize placeQ l id=pq at *;generalize l.getD pq z75=x at *;obtain ⟨x0,x1,x2⟩:=x;simp only at h0 h1 h2 hgq;have HGQ:=Lib.hid hgq;clear hgq;have HX:=Lib.hid (of_any x0 x2 x1 w3);go_wp2_with fail;refine HX.out.mono ?_;rintro e w4 ⟨rfl,hb4⟩;have k14:=(hb4.block _ (lt_of_block HK13.out)).trans HK13.out;have HB4:=Lib.hid (HB3.out.trans (hb4.mono HB3.out.size));have c0:w4.cell? ⟨w.heap.size+1,0,none⟩=some (.int .i64 0):=by rw [blk_cell k14 0];rfl
  have c1:w4.cell? ⟨w.heap.size+1,1,none⟩=some (.string ⟨#[]⟩):=by rw [blk_cell k14 1];rfl
  have f0:=blk_frozen k14 0;have f1:=blk_frozen k14 1;have HS:=Lib.hid (ob_set k14 (.int .i64 x1) (.string x2));have HBW:=Lib.hid (below_two HB4.out (g:=w.heap.size+1) (by omega) (.int .i64 x1) (.string x2));clear hb4 k14 HX;go_wp2;refine bodyPost_ret (results_ch rfl _ _ (w.heap.size+1) 60 _ (0,0) _ rfl HS.out Tryz.underlying60 rfl (by kernel_rfl)) rfl ?_;exact ⟨by rw [HGQ.out];rfl,HBW.out⟩
end Go.Proofs.YtninnmdpnoebaaaGreatDoor.Hand
end
section
namespace Go.Proofs.YtninnmdpnoebaaaGreatDoor.Hand
open Go.RowKit Go.Proofs.YtninnmdpnoebaaaGreatDoorW.PrintWords Go.Proofs.YtninnmdpnoebaaaGreatDoorW.PrintLast Go.Proofs.YtninnmdpnoebaaaGreatDoorW.PrintMore
set_option linter.unusedVariables false
set_option linter.unusedSimpArgs false
structure WhoIs (s n m d zz:ByteArray) (r1 r2:List UInt8) (t zh zm:Int):Prop where
 size:s.size < 4294967281
 cut1:Lib.cut s.data.toList [32,60]=(n.data.toList,r1,true)
 size1:r1.length < 4294967281
 cut2:Lib.cut r1 [62,32]=(m.data.toList,r2,true)
 size2:r2.length < 4294967281
 cut3:Lib.cut r2 [32]=(d.data.toList,zz.data.toList,true)
 dig:DigOk d
 val:Lib.atoi d.data.toList=some t
 zone:ZoneOk zz zh zm
 who:WhoOk n m t (zoneQ zz zh zm)
set_option maxHeartbeats 8000000 in
set_option maxRecDepth 100000 in
theorem parseWho_any (s n m d zz:ByteArray) (r1 r2:List UInt8) (t zh zm q:Int) (H:WhoIs s n m d zz r1 r2 t zh zm) (hca:∀ wx:World,Calls Tryz.prog 153 #[.string (n++m),.string ⟨#[60,62]⟩] wx fun e w'=>e=.returned (.bool false)∧Below wx.heap.size wx w') (w:World) (hm:w.cell? ⟨0,0,none⟩=some (.int .i64 q)) :
  Calls Tryz.prog 141 #[.string s] w fun e w'=>e=.returned (.tuple #[.agg #[.string n,.string m,.int .i64 t,.int .i64 (zoneQ zz zh zm)],.int .i64 0])∧Below w.heap.size w w':=by
 have HCA:=Lib.hid hca;have HH:=Lib.hid H;generalize hw1:w.alloc (.cells #[.string ⟨#[]⟩,.string ⟨#[]⟩,.int .i64 0,.int .i64 0] 51)=w1;have HB1:RowKit.Hid (Below w.heap.size w w1):=Lib.hid (by rw [← hw1];exact (Below.refl _ w).alloc (Nat.le_refl _) _);have HK1:RowKit.Hid (w1.heap[w.heap.size]? = some (.cells #[.string ⟨#[]⟩,.string ⟨#[]⟩,.int .i64 0,.int .i64 0] 51 (0,0))):=Lib.hid (by rw [← hw1];exact heap_alloc_new _ _);have hm1:w1.cell? ⟨0,0,none⟩=some (.int .i64 q):=(HB1.out.cell (World.block_lt_of_cell? w _ hm)).trans hm;have hc1:=Tryz.strings_Cut s ⟨#[32,60]⟩ q w1 H.size hm1;rw [show (⟨#[32,60]⟩:ByteArray).data.toList=[32,60] from rfl,H.cut1] at hc1;have HC1:=Lib.hid hc1;have HC2:=Lib.hid (fun (wx:World) (hx:wx.cell? ⟨0,0,none⟩=some (.int .i64 q))=>Tryz.strings_Cut ⟨r1.toArray⟩ ⟨#[62,32]⟩ q wx (by rw [show (⟨r1.toArray⟩:ByteArray).size=r1.length from by show r1.toArray.size=_;simp];exact H.size1) hx);have HC3:=Lib.hid (fun (wx:World) (hx:wx.cell? ⟨0,0,none⟩=some (.int .i64 q))=>Tryz.strings_Cut ⟨r2.toArray⟩ ⟨#[32]⟩ q wx (by rw [show (⟨r2.toArray⟩:ByteArray).size=r2.length from by show r2.toArray.size=_;simp];exact H.size2) hx);have HW1:=Lib.hid hw1;have HM1:=Lib.hid hm1;clear hca H hw1 hm1 hc1 hm;go_enter Tryz.func141,Tryz.ntmps141;go_upto_region 1 with (fail);rw [HW1.out];go_wp2_with fail;refine HC1.out.mono ?_;rintro e w2 ⟨rfl,n1,rfl⟩;have HB2:RowKit.Hid (Below w.heap.size w (w1.drewN n1)):=Lib.hid (pw_below_drewN HB1.out _);have HK2:RowKit.Hid ((w1.drewN n1).heap[w.heap.size]? = some (.cells #[.string ⟨#[]⟩,.string ⟨#[]⟩,.int .i64 0,.int .i64 0] 51 (0,0))):=HK1;have HM2:RowKit.Hid ((w1.drewN n1).cell? ⟨0,0,none⟩=some (.int .i64 q)):=HM1;generalize w1.drewN n1=w2 at *;clear HC1 HW1 HM1 HB1 HK1;go_wp2_with fail;refine (HC2.out w2 HM2.out).mono ?_;rintro e w3 ⟨rfl,n2,rfl⟩;have HB3:RowKit.Hid (Below w.heap.size w (w2.drewN n2)):=Lib.hid (pw_below_drewN HB2.out _);have HK3:RowKit.Hid ((w2.drewN n2).heap[w.heap.size]? = some (.cells #[.string ⟨#[]⟩,.string ⟨#[]⟩,.int .i64 0,.int .i64 0] 51 (0,0))):=HK2;have HM3:RowKit.Hid ((w2.drewN n2).cell? ⟨0,0,none⟩=some (.int .i64 q)):=HM2;generalize w2.drewN n2=w3 at *;rw [HH.out.cut2];clear HC2 HM2 HB2 HK2;go_wp2_with fail;refine (HC3.out w3 HM3.out).mono ?_;rintro e w4 ⟨rfl,n3,rfl⟩;have HB4:RowKit.Hid (Below w.heap.size w (w3.drewN n3)):=Lib.hid (pw_below_drewN HB3.out _);have HK4:RowKit.Hid ((w3.drewN n3).heap[w.heap.size]? = some (.cells #[.string ⟨#[]⟩,.string ⟨#[]⟩,.int .i64 0,.int .i64 0] 51 (0,0))):=HK3;have HM4:RowKit.Hid ((w3.drewN n3).cell? ⟨0,0,none⟩=some (.int .i64 q)):=HM3;generalize w3.drewN n3=w4 at *;rw [HH.out.cut3];clear HC3 HM3 HB3 HK3;have HD:=Lib.hid (digits_any d t HH.out.dig HH.out.val w4);go_wp2_with fail;refine HD.out.mono ?_;rintro e w5 ⟨rfl,hb5⟩;have k5:=(hb5.block _ (lt_of_block HK4.out)).trans HK4.out;have HK5:=Lib.hid k5;have HB5:=Lib.hid (HB4.out.trans (hb5.mono HB4.out.size));have HZ:=Lib.hid (zone_any zz zh zm HH.out.zone w5);clear hb5 k5 HB4 HK4 HD;go_wp2_with fail;refine HZ.out.mono ?_;rintro e w6 ⟨rfl,hb6⟩;have k6:=(hb6.block _ (lt_of_block HK5.out)).trans HK5.out;have HK6:=Lib.hid k6;have HB6:=Lib.hid (HB5.out.trans (hb6.mono HB5.out.size));have HCC:=Lib.hid (HCA.out w6);have hsum:(9223372036854775807 < n.size+m.size)=False:=eq_false (by have h1:=HH.out.who.name.le;have h2:=HH.out.who.mail.le;omega);clear hb6 k6 HB5 HK5 HZ;go_wp2_with fail;refine HCC.out.mono ?_;rintro e w7 ⟨rfl,hb7⟩;have k7:=(hb7.block _ (lt_of_block HK6.out)).trans HK6.out;have HB7:=Lib.hid (HB6.out.trans (hb7.mono HB6.out.size));have k8:(w7.alloc (.cells #[.string n,.string m,.int .i64 t,.int .i64 (zoneQ zz zh zm)] 51)).heap[w7.heap.size]? = some (.cells #[.string n,.string m,.int .i64 t,.int .i64 (zoneQ zz zh zm)] 51 (0,0)):=heap_alloc_new _ _;have k28:=(heap_alloc_old w7 (.cells #[.string n,.string m,.int .i64 t,.int .i64 (zoneQ zz zh zm)] 51) (lt_of_block k7)).trans k7;have HK8:=Lib.hid k8;have HK28:=Lib.hid k28;have HB8:=Lib.hid (HB7.out.alloc HB7.out.size (.cells #[.string n,.string m,.int .i64 t,.int .i64 (zoneQ zz zh zm)] 51));clear hb7 k7 k8 k28 HCC hsum HCA HK6 HB6 HB7;go_upto_region 9 with (fail);rw [show (ByteArray.mk n.data)=n from rfl,show (ByteArray.mk m.data)=m from rfl];have hlt8:=lt_of_block HK8.out;have hge8:w.heap.size < w7.heap.size:=by
  have:=lt_of_block HK28.out;rw [show (w7.alloc (.cells #[.string n,.string m,.int .i64 t,.int .i64 (zoneQ zz zh zm)] 51)).heap.size=w7.heap.size+1 from Array.size_push _] at this;rcases Nat.eq_or_lt_of_le (Nat.le_of_lt_succ this) with h | h
  ·exfalso;have h1:=HK28.out;rw [h,HK8.out] at h1;injection h1 with h1;injection h1 with h1 _ _;have h2:=congrArg (fun a=>a.getD 0 undef) h1;simp at h2;have h3:=HH.out.who.name.pos;rw [h2] at h3;exact absurd h3 (by decide)
  ·exact h
 generalize w7.heap.size=g8 at *;generalize w7.alloc (.cells #[.string n,.string m,.int .i64 t,.int .i64 (zoneQ zz zh zm)] 51)=w8 at *;have p0:w8.cell? ⟨g8,0,none⟩=some (.string n):=by rw [blk_cell HK8.out 0];rfl
 have p1:w8.cell? ⟨g8,1,none⟩=some (.string m):=by rw [blk_cell HK8.out 1];rfl
 have p2:w8.cell? ⟨g8,2,none⟩=some (.int .i64 t):=by rw [blk_cell HK8.out 2];rfl
 have p3:w8.cell? ⟨g8,3,none⟩=some (.int .i64 (zoneQ zz zh zm)):=by rw [blk_cell HK8.out 3];rfl
 have HSB:=Lib.hid (somebody_any n m t (zoneQ zz zh zm) HH.out.who w8);go_wp2_with fail;refine HSB.out.mono ?_;rintro e w9 ⟨rfl,hb9⟩;have k9:=(hb9.block _ hlt8).trans HK8.out;have k29:=(hb9.block _ (lt_of_block HK28.out)).trans HK28.out;have HB9:=Lib.hid (HB8.out.trans (hb9.mono HB8.out.size));clear hb9 p0 p1 p2 p3 HSB HK8 HK28 HB8;have p0:w9.cell? ⟨g8,0,none⟩=some (.string n):=by rw [blk_cell k9 0];rfl
 have p1:w9.cell? ⟨g8,1,none⟩=some (.string m):=by rw [blk_cell k9 1];rfl
 have p2:w9.cell? ⟨g8,2,none⟩=some (.int .i64 t):=by rw [blk_cell k9 2];rfl
 have p3:w9.cell? ⟨g8,3,none⟩=some (.int .i64 (zoneQ zz zh zm)):=by rw [blk_cell k9 3];rfl
 have q0:w9.cell? ⟨w.heap.size,0,none⟩=some (.string ⟨#[]⟩):=by rw [blk_cell k29 0];rfl
 have q1:w9.cell? ⟨w.heap.size,1,none⟩=some (.string ⟨#[]⟩):=by rw [blk_cell k29 1];rfl
 have q2:w9.cell? ⟨w.heap.size,2,none⟩=some (.int .i64 0):=by rw [blk_cell k29 2];rfl
 have q3:w9.cell? ⟨w.heap.size,3,none⟩=some (.int .i64 0):=by rw [blk_cell k29 3];rfl
 have f0:=blk_frozen k29 0;have f1:=blk_frozen k29 1;have f2:=blk_frozen k29 2;have f3:=blk_frozen k29 3;have hfin:=blk_set (blk_set (blk_set (blk_set k29 0 (.string n)) 1 (.string m)) 2 (.int .i64 t)) 3 (.int .i64 (zoneQ zz zh zm));have HFIN:=Lib.hid hfin;have HBF:=Lib.hid (Below.setCell (Below.setCell (Below.setCell (Below.setCell HB9.out (p:=⟨w.heap.size,0,none⟩) (Nat.le_refl _) (.string n)) (p:=⟨w.heap.size,1,none⟩) (Nat.le_refl _) (.string m)) (p:=⟨w.heap.size,2,none⟩) (Nat.le_refl _) (.int .i64 t)) (p:=⟨w.heap.size,3,none⟩) (Nat.le_refl _) (.int .i64 (zoneQ zz zh zm)));clear hfin k9 k29;go_wp2;refine bodyPost_ret (results_ch rfl _ _ w.heap.size 51 _ (0,0) _ rfl HFIN.out Tryz.underlying51 rfl (by kernel_rfl)) rfl ?_;exact ⟨rfl,HBF.out⟩
end Go.Proofs.YtninnmdpnoebaaaGreatDoor.Hand
end
section
namespace Go.Proofs.YtninnmdpnoebaaaGreatDoor.Hand
open Go.RowKit Go.Proofs.YtninnmdpnoebaaaGreatDoorW.PrintWords Go.Proofs.YtninnmdpnoebaaaGreatDoorW.PrintLast Go.Proofs.YtninnmdpnoebaaaGreatDoorW.PrintMore
open Go.ChangeMaps
set_option linter.unusedVariables false
set_option linter.unusedSimpArgs false
abbrev RdQ:=ByteArray→Int × List ByteArray
def foldQ (f:List ByteArray→ByteArray→Option (List ByteArray × Int)):List ByteArray→List ByteArray→Option (List ByteArray × Int)
 | met,[]=>some (met,0)
 | met,p :: r=>(f met p).bind fun x=>if x.2=0 then foldQ f x.1 r else some x
def visitQ (rd:RdQ):Nat→List ByteArray→ByteArray→Option (List ByteArray × Int)
 | 0,_,_=>none
 | n+1,met,id=>if Lib.containsS met id=true then some (met,0) else if (rd id).1=0 then foldQ (visitQ rd n) (met++[id]) (rd id).2 else some (met,(rd id).1)
def CmV (v:Value):Prop:=∃ t p n c a1 a2 a3 a4 b1 b2 b3 b4 x,v=.agg #[.string t,.slice p n c,.string a1,.string a2,.int .i64 a3,.int .i64 a4,.string b1,.string b2,.int .i64 b3,.int .i64 b4,.string x]
def Txs (w:World) (M:Nat) (p:Option Addr) (l:List ByteArray):Prop:=∀ j,j < l.length→∃ ad,p=some ad∧ad.block≠M∧w.cell? (ad.add j)=some (.string (l.getD j ByteArray.empty))
theorem Txs.grown {w w':World} {M:Nat} {p:Option Addr} {l:List ByteArray} (h:Txs w M p l) (hg:w.grownBy w' (some M)):Txs w' M p l:=fun j hj=>by
 obtain ⟨ad,e,hne,hc⟩:=h j hj;exact ⟨ad,e,hne,cell_grown hg hc (by intro e2;injection e2 with e2;exact hne (e2.symm.trans (by simp only [Addr.add];split<;>rfl)).symm)⟩
structure Reads (K:World→Prop) (V:Value) (rd:RdQ):Prop where
 small:∀ id,(rd id).2.length≤140737488355328
 run:∀ (id:ByteArray) (w:World) (M:Nat),K w→M < w.heap.size→Calls Tryz.prog 66 #[V,.string id] w fun e w'=>∃ v t p c a1 a2 a3 a4 b1 b2 b3 b4 x,e=.returned (.tuple #[v,.int .i64 (rd id).1]) ∧
  v=.agg #[.string t,.slice p (rd id).2.length c,.string a1,.string a2,.int .i64 a3,.int .i64 a4,.string b1,.string b2,.int .i64 b3,.int .i64 b4,.string x]∧Txs w' M p (rd id).2∧Below w.heap.size w w'
structure Env (w:World) (gm gv gf M:Nat) (s0 s1 s2 s3:Value):Prop where
 m:w.heap[gm]? = some (.cells #[.map (some M)] 92 (0,0))
 v:w.heap[gv]? = some (.cells #[s0,s1,s2,s3] 29 (0,0))
 f:w.heap[gf]? = some (.cells #[.func (.func 65) #[] #[.pointer (some ⟨gm,0,none⟩),.pointer (some ⟨gv,0,none⟩),.pointer (some ⟨gf,0,none⟩)]] 129 (0,0))
 nm:gm≠M
 nv:gv≠M
 nf:gf≠M
theorem Env.grown {w w':World} {gm gv gf M:Nat} {s0 s1 s2 s3:Value} (h:Env w gm gv gf M s0 s1 s2 s3) (hg:w.grownBy w' (some M)):Env w' gm gv gf M s0 s1 s2 s3 :=
 ⟨(hg.block gm (lt_of_block h.m) (by simpa using h.nm)).trans h.m,(hg.block gv (lt_of_block h.v) (by simpa using h.nv)).trans h.v,(hg.block gf (lt_of_block h.f) (by simpa using h.nf)).trans h.f,h.nm,h.nv,h.nf⟩
theorem grown_below {w w':World} (h:Below w.heap.size w w') (r:Option Nat):w.grownBy w' r:=⟨h.os,h.tape,h.output,h.size,fun k hk _=>h.block k hk⟩
theorem grown_trans {w w1 w2:World} {r:Option Nat} (h:w.grownBy w1 r) (h2:w1.grownBy w2 r):w.grownBy w2 r :=
 ⟨h2.os.trans h.os,h2.tape.trans h.tape,h2.output.trans h.output,Nat.le_trans h.size h2.size,fun k hk hne=>(h2.block k (Nat.lt_of_lt_of_le hk h.size) hne).trans (h.block k hk hne)⟩
theorem below_grown {w w':World} {M N:Nat} (h:w.grownBy w' (some M)) (hN:N≤M) (hM:M < w.heap.size):Below N w w':=⟨h.os,h.tape,h.output,h.size,fun k hk=>h.block k (by omega) (by simp;omega)⟩
theorem zero_commit (w:World):(zeroValue 57).run Tryz.prog w=.ok (.agg #[.string ⟨#[]⟩,.slice none 0 0,.string ⟨#[]⟩,.string ⟨#[]⟩,.int .i64 0,.int .i64 0,.string ⟨#[]⟩,.string ⟨#[]⟩,.int .i64 0,.int .i64 0,.string ⟨#[]⟩]) w:=by kernel_rfl
def VisEnd (w:World) (M:Nat) (ks:List ByteArray):Prop:=∃ es c,SMap w M es c∧(∀ x∈es,CmV x.val)∧es.map keyS=ks
def VisRel (rd:RdQ) (n M:Nat) (w4:World) (ps:List ByteArray) (r:List ByteArray × Int) (iv:Value) (wr:World):Prop :=
 ∃ (i:Nat) (es:List MapEntry) (c:Nat),iv=.int .i64 i∧i≤ps.length∧SMap wr M es c∧(∀ x∈es,CmV x.val)∧foldQ (visitQ rd n) (es.map keyS) (ps.drop i)=some r∧w4.grownBy wr (some M)
set_option maxHeartbeats 4000000 in
set_option maxRecDepth 100000 in
theorem visit_any (K:World→Prop) (N:Nat) (s0 s1 s2 s3:Value) (rd:RdQ) (hR:Reads K (.agg #[s0,s1,s2,s3]) rd) (hK:∀ w w',K w→Below N w w'→K w') (n:Nat):∀ (gm gv gf M c:Nat) (es:List MapEntry) (id:ByteArray) (w:World) (r:List ByteArray × Int),
  K w→N≤M→Env w gm gv gf M s0 s1 s2 s3→SMap w M es c→(∀ x∈es,CmV x.val)→visitQ rd n (es.map keyS) id=some r →
  Calls Tryz.prog 65 #[.string id,.pointer (some ⟨gm,0,none⟩),.pointer (some ⟨gv,0,none⟩),.pointer (some ⟨gf,0,none⟩)] w fun e w'=>e=.returned (.int .i64 r.2)∧VisEnd w' M r.1∧w.grownBy w' (some M):=by
 induction n with
 | zero=>intro gm gv gf M c es id w r _ _ _ _ _ h;cases h
 | succ n ih =>
  intro gm gv gf M c es id w r hKw hN hE hM hV h;have HR:=Lib.hid hR;have HKK:=Lib.hid hK;have IH:=Lib.hid ih;clear hR hK ih;obtain ⟨v,hlk,hz,hin⟩:=smap_look Tryz.underlying92 Tryz.underlying9 zero_commit hM id;have hcv:CmV v:=by
   by_cases hi:id∈es.map keyS
   ·obtain ⟨x,hx,_,e⟩:=hin hi;rw [← e];exact hV x hx
   ·rw [hz hi];exact ⟨_,_,_,_,_,_,_,_,_,_,_,_,_,rfl⟩
  obtain ⟨t,p,m,cp,a1,a2,a3,a4,b1,b2,b3,b4,x,rfl⟩:=hcv;have cm:w.cell? ⟨gm,0,none⟩=some (.map (some M)):=by rw [Lib.cell_of_heap hE.m];rfl
  clear hz hin;rw [visitQ] at h;by_cases hc:Lib.containsS (es.map keyS) id=true
  ·rw [if_pos hc] at h;obtain rfl:=Option.some.inj h;rw [hc] at hlk;clear hc h;go_enter Tryz.func65,Tryz.ntmps65;go_wp2_with fail;go_ret;exact ⟨rfl,⟨es,c,hM.kept (heap_alloc_old w _ hM.lt),hV,rfl⟩,grown_below ((Below.refl _ w).alloc (Nat.le_refl _) _) _⟩
  ·rw [if_neg hc] at h;have hcb:Lib.containsS (es.map keyS) id=false:=by simpa using hc
   rw [hcb] at hlk;have hnew:id ∉ es.map keyS:=fun hm=>hc ((Lib.containsS_iff _ _).2 hm);have cv0:w.cell? ⟨gv,0,none⟩=some s0:=by rw [Lib.cell_of_heap hE.v];rfl
   have cv1:w.cell? ⟨gv,1,none⟩=some s1:=by rw [Lib.cell_of_heap hE.v];rfl
   have cv2:w.cell? ⟨gv,2,none⟩=some s2:=by rw [Lib.cell_of_heap hE.v];rfl
   have cv3:w.cell? ⟨gv,3,none⟩=some s3:=by rw [Lib.cell_of_heap hE.v];rfl
   have lgv:=lt_of_block hE.v;have lgm:=lt_of_block hE.m;have lgf:=lt_of_block hE.f;have H:=Lib.hid h;have HE:=Lib.hid hE;have HM:=Lib.hid hM;have HV:=Lib.hid hV;have HN:=Lib.hid hnew;clear h hE hM hV hnew hc hcb;go_enter Tryz.func65,Tryz.ntmps65;go_wp2_with fail;generalize hw1:w.alloc (.cells #[.string t,.slice p m cp,.string a1,.string a2,.int .i64 a3,.int .i64 a4,.string b1,.string b2,.int .i64 b3,.int .i64 b4,.string x] 57)=w1;have hb1:Below w.heap.size w w1:=by rw [← hw1];exact (Below.refl _ w).alloc (Nat.le_refl _) _
   have hsz1:w1.heap.size=w.heap.size+1:=by rw [← hw1];exact Array.size_push _
   clear hw1 cm cv0 cv1 cv2 cv3 hlk;have hg1:=grown_below hb1 (some M);have hML:=HM.out.lt;refine (HR.out.run id w1 M (HKK.out _ _ hKw (below_grown hg1 hN hML)) (by omega)).mono ?_;rintro e w2 ⟨v2,t2,p2,k2,d1,d2,d3,d4,e1,e2,e3,e4,x2,rfl,rfl,hT2,hb2⟩;have hg2:=grown_trans hg1 (grown_below hb2 (some M));have hsm:=HR.out.small id;generalize hrd:rd id=re at *;obtain ⟨er,ps⟩:=re;simp only at hT2 hsm ⊢;have hcm:CmV (.agg #[.string t2,.slice p2 ps.length k2,.string d1,.string d2,.int .i64 d3,.int .i64 d4,.string e1,.string e2,.int .i64 e3,.int .i64 e4,.string x2]):=⟨_,_,_,_,_,_,_,_,_,_,_,_,_,rfl⟩;have hb3:Below w2.heap.size w2 (w2.alloc (.cells #[.string t2,.slice p2 ps.length k2,.string d1,.string d2,.int .i64 d3,.int .i64 d4,.string e1,.string e2,.int .i64 e3,.int .i64 e4,.string x2] 57)):=(Below.refl _ w2).alloc (Nat.le_refl _) _;have hg3:=grown_trans hg2 (grown_below hb3 (some M));have hM3:SMap (w2.alloc (.cells #[.string t2,.slice p2 ps.length k2,.string d1,.string d2,.int .i64 d3,.int .i64 d4,.string e1,.string e2,.int .i64 e3,.int .i64 e4,.string x2] 57)) M es c:=by
    have h1:=HM.out.kept (hb1.block M hML);have h2:=h1.kept (hb2.block M h1.lt);exact h2.kept (hb3.block M h2.lt)
   by_cases he:er=0
   ·subst he;obtain ⟨hrun,hM4⟩:=smap_put Tryz.underlying92 Tryz.underlying9 hM3 id HN.out (.agg #[.string t2,.slice p2 ps.length k2,.string d1,.string d2,.int .i64 d3,.int .i64 d4,.string e1,.string e2,.int .i64 e3,.int .i64 e4,.string x2]);have cm3:(w2.alloc (.cells #[.string t2,.slice p2 ps.length k2,.string d1,.string d2,.int .i64 d3,.int .i64 d4,.string e1,.string e2,.int .i64 e3,.int .i64 e4,.string x2] 57)).cell? ⟨gm,0,none⟩=some (.map (some M)):=by rw [Lib.cell_of_heap (HE.out.grown hg3).m];rfl
    have hlt2:M < w2.heap.size:=by have:=hb2.size;omega
    go_upto_region 8 with (fail);have hgs:=grown_setBlock (w2.alloc (.cells #[.string t2,.slice p2 ps.length k2,.string d1,.string d2,.int .i64 d3,.int .i64 d4,.string e1,.string e2,.int .i64 e3,.int .i64 e4,.string x2] 57)) M (.map (es++[newE id (.agg #[.string t2,.slice p2 ps.length k2,.string d1,.string d2,.int .i64 d3,.int .i64 d4,.string e1,.string e2,.int .i64 e3,.int .i64 e4,.string x2]) c]).toArray (c+1));have hg4:=grown_trans hg3 hgs;have hV4:∀ x∈es++[newE id (.agg #[.string t2,.slice p2 ps.length k2,.string d1,.string d2,.int .i64 d3,.int .i64 d4,.string e1,.string e2,.int .i64 e3,.int .i64 e4,.string x2]) c],CmV x.val:=fun y hy=>by
     rcases List.mem_append.1 hy with hy | hy
     ·exact HV.out y hy
     ·rw [List.mem_singleton.1 hy];exact hcm
    have hk4:=keys_put es id (.agg #[.string t2,.slice p2 ps.length k2,.string d1,.string d2,.int .i64 d3,.int .i64 d4,.string e1,.string e2,.int .i64 e3,.int .i64 e4,.string x2]) c;have hT4:=(hT2.grown (grown_below hb3 (some M))).grown hgs;have hcell:∀ q u,(w2.alloc (.cells #[.string t2,.slice p2 ps.length k2,.string d1,.string d2,.int .i64 d3,.int .i64 d4,.string e1,.string e2,.int .i64 e3,.int .i64 e4,.string x2] 57)).cell? q=some u→(setBlock (w2.alloc (.cells #[.string t2,.slice p2 ps.length k2,.string d1,.string d2,.int .i64 d3,.int .i64 d4,.string e1,.string e2,.int .i64 e3,.int .i64 e4,.string x2] 57)) M (.map (es++[newE id (.agg #[.string t2,.slice p2 ps.length k2,.string d1,.string d2,.int .i64 d3,.int .i64 d4,.string e1,.string e2,.int .i64 e3,.int .i64 e4,.string x2]) c]).toArray (c+1))).cell? q=some u:=fun q u h=>cell_setBlock hM3.blk h;have hc1:=hcell ⟨w2.heap.size,1,none⟩ (.slice p2 ps.length k2) (by rw [Lib.cell_of_heap (heap_alloc_new w2 _)];rfl);have h:=H.out;simp only at h;rw [if_pos trivial,← hk4] at h;generalize (es++[newE id (.agg #[.string t2,.slice p2 ps.length k2,.string d1,.string d2,.int .i64 d3,.int .i64 d4,.string e1,.string e2,.int .i64 e3,.int .i64 e4,.string x2]) c])=es4 at *;generalize setBlock (w2.alloc (.cells #[.string t2,.slice p2 ps.length k2,.string d1,.string d2,.int .i64 d3,.int .i64 d4,.string e1,.string e2,.int .i64 e3,.int .i64 e4,.string x2] 57)) M (.map es4.toArray (c+1))=w4 at *;have HE4:=Lib.hid (HE.out.grown hg4);have HT4:=Lib.hid hT4;have HG4:=Lib.hid hg4;have hrel0:VisRel rd n M w4 ps r (.int .i64 (0:Nat)) w4:=⟨0,es4,c+1,rfl,Nat.zero_le _,hM4,hV4,h,World.grownBy.refl _ _⟩;have HREL:=Lib.hid hrel0;clear H hrun hM3 cm3 hgs hg4 hV4 hk4 hT4 hcell h hM4 hrel0 hg3 hb3 hg2 hg1 hb1 hb2 hT2 HM HN hrd;go_wp2;go_loopw [35] (fun iv wr=>VisRel rd n M w4 ps r iv wr) (fun iv _=>ps.length - (intOf iv).toNat)
    case atStart=>exact HREL.out
    case round =>
     obtain ⟨i,es5,c5,rfl,hi,hM5,hV5,hf,hg5⟩:=hrel;clear HREL;by_cases ci:(i:Int) < (ps.length:Int)
     ·have cb:decide ((i:Int) < (ps.length:Int))=true:=decide_eq_true ci;have i0:0≤(i:Int):=by omega
      have hlt:i < ps.length:=by omega
      have q4:IntKind.i64.wrap ((i:Int)+1)=(i:Int)+1:=by rw [i64_w];exact wrap64_id (by omega) (by omega)
      obtain ⟨ad,rfl,hne,hci⟩:=(HT4.out.grown hg5) i hlt;rw [List.drop_eq_getElem_cons hlt,foldQ] at hf;have hgi:ps.getD i ByteArray.empty=ps[i]:=by simp [hlt]
      rw [hgi] at hci;generalize ps[i]=pid at *;obtain ⟨y,hy,hf2⟩:=Option.bind_eq_some_iff.1 hf;have hE5:=HE4.out.grown hg5;have cf:wr.cell? ⟨gf,0,none⟩=some (.func (.func 65) #[] #[.pointer (some ⟨gm,0,none⟩),.pointer (some ⟨gv,0,none⟩),.pointer (some ⟨gf,0,none⟩)]):=by rw [Lib.cell_of_heap hE5.f];rfl
      have hci':wr.cell? (ad.add i)=some (.string pid):=hci;have HX:=Lib.hid (IH.out gm gv gf M c5 es5 pid wr y (HKK.out _ _ hKw (below_grown (grown_trans HG4.out hg5) hN hML)) hN hE5 hM5 hV5 hy);have HF2:=Lib.hid hf2;have HG5:=Lib.hid hg5;clear hM5 hV5 hf hg5 hy hE5 hf2 hci;go_wp2_with fail;refine HX.out.mono ?_;rintro e w6 ⟨rfl,hend,hg6⟩;have HG6:=Lib.hid (grown_trans HG5.out hg6);clear hg6 HX HG5 cf hci';obtain ⟨ks,ey⟩:=y;simp only at hend ⊢;have hf2:=HF2.out;simp only at hf2;by_cases ce:ey=0
      ·subst ce;rw [if_pos rfl] at hf2;obtain ⟨es6,c6,hM6,hV6,hk6⟩:=hend;rw [← hk6] at hf2;have HM6:=Lib.hid hM6;have HV6:=Lib.hid hV6;have HF6:=Lib.hid hf2;clear hM6 hV6 hf2 HF2 hk6;go_wp2;exact ⟨⟨i+1,es6,c6,rfl,by omega,HM6.out,HV6.out,HF6.out,HG6.out⟩,by simp [intOf];omega⟩
      ·have ceb:(ey != 0)=true:=by simp [ce]
       rw [if_neg ce] at hf2;obtain rfl:=Option.some.inj hf2;have HEND:=Lib.hid hend;clear hend HF2;go_wp2;go_ret;exact ⟨rfl,HEND.out,grown_trans HG4.out HG6.out⟩
     ·have cb:decide ((i:Int) < (ps.length:Int))=false:=decide_eq_false ci;obtain rfl:i=ps.length:=by omega
      rw [List.drop_length,foldQ] at hf;obtain rfl:=Option.some.inj hf;have HEND:RowKit.Hid (VisEnd wr M (es5.map keyS)):=Lib.hid ⟨es5,c5,hM5,hV5,rfl⟩;have HG5:=Lib.hid hg5;clear hM5 hV5 hg5 hf;go_wp2;go_ret;exact ⟨rfl,HEND.out,grown_trans HG4.out HG5.out⟩
   ·have heb:(er != 0)=true:=by simp [he]
    have h:=H.out;simp only at h;rw [if_neg he] at h;obtain rfl:=Option.some.inj h;go_wp2_with fail;go_ret;exact ⟨rfl,⟨es,c,hM3,HV.out,rfl⟩,hg3⟩
end Go.Proofs.YtninnmdpnoebaaaGreatDoor.Hand
end
section
namespace Go.Proofs.YtninnmdpnoebaaaGreatDoor.Hand
open Go.RowKit Go.Proofs.YtninnmdpnoebaaaGreatDoorW.PrintWords Go.Proofs.YtninnmdpnoebaaaGreatDoorW.PrintLast Go.Proofs.YtninnmdpnoebaaaGreatDoorW.PrintMore
set_option linter.unusedVariables false
set_option linter.unusedSimpArgs false
def Rdr (w:World) (g:Nat) (s:ByteArray) (e:Int):Prop:=w.heap[g]? = some (.cells #[.string s,.int .i64 e] 180 (0,0))
section
variable {w w':World} {g:Nat} {s:ByteArray} {e:Int}
theorem Rdr.c0 (h:Rdr w g s e):w.cell? ⟨g,0,none⟩=some (.string s):=by rw [blk_cell h 0];rfl
theorem Rdr.c1 (h:Rdr w g s e):w.cell? ⟨g,1,none⟩=some (.int .i64 e):=by rw [blk_cell h 1];rfl
theorem Rdr.fr (h:Rdr w g s e) (i:Nat):w.frozen? ⟨g,i,none⟩=false:=blk_frozen h i
theorem Rdr.set0 (h:Rdr w g s e) (s':ByteArray):Rdr (w.setCell ⟨g,0,none⟩ (.string s')) g s' e:=by
 have:=blk_set h 0 (.string s');show (w.setCell ⟨g,0,none⟩ (.string s')).heap[g]? = _;simpa using this
theorem Rdr.set1 (h:Rdr w g s e) (e':Int):Rdr (w.setCell ⟨g,1,none⟩ (.int .i64 e')) g s e':=by
 have:=blk_set h 1 (.int .i64 e');show (w.setCell ⟨g,1,none⟩ (.int .i64 e')).heap[g]? = _;simpa using this
theorem grown_setCell (w:World) (g i:Nat) (u:Value):w.grownBy (w.setCell ⟨g,i,none⟩ u) (some g) :=
 ⟨rfl,rfl,rfl,by simp,fun k hk hne=>Below.heap_setCell _ _ _ _ (fun e=>hne (by rw [e]))⟩
end
def failQ (e x:Int):Int:=if e=0∨x=2 then x else e
set_option maxHeartbeats 4000000 in
set_option maxRecDepth 100000 in
theorem fail_any (w:World) (g:Nat) (s:ByteArray) (e x:Int) (h:Rdr w g s e) :
  Calls Tryz.prog 122 #[.pointer (some ⟨g,0,none⟩),.int .i64 x] w fun o w'=>o=.returned (.tuple #[])∧Rdr w' g s (failQ e x)∧w.grownBy w' (some g):=by
 have c1:=h.c1;have f1:=h.fr 1;have HS:=Lib.hid (h.set1 x);have H:=Lib.hid h;clear h;by_cases c:e=0
 ·have hq:failQ e x=x:=by simp [failQ,c]
  rw [hq];have ceb:(e == 0)=true:=by simp [c]
  go_enter Tryz.func122,Tryz.ntmps122;go_wp2;refine bodyPost_end (results_none rfl _ _ _) rfl ?_;exact ⟨rfl,HS.out,grown_setCell _ _ _ _⟩
 ·have ceb:(e == 0)=false:=by simp [c]
  by_cases c2:x=2
  ·subst c2;have hq:failQ e 2=2:=by simp [failQ]
   rw [hq];go_enter Tryz.func122,Tryz.ntmps122;go_wp2;refine bodyPost_end (results_none rfl _ _ _) rfl ?_;exact ⟨rfl,HS.out,grown_setCell _ _ _ _⟩
  ·have hq:failQ e x=e:=by simp [failQ,c,c2]
   rw [hq];have cxb:(x == 2)=false:=by simp [c2]
   go_enter Tryz.func122,Tryz.ntmps122;go_wp2;refine bodyPost_end (results_none rfl _ _ _) rfl ?_;exact ⟨rfl,H.out,World.grownBy.refl _ _⟩
def lineQ (s:ByteArray) (e:Int) (word:ByteArray):ByteArray × ByteArray × Int :=
 if (Lib.cut s.data.toList [10]).2.2=true then (if Lib.hasPrefix (Lib.cut s.data.toList [10]).1 word.data.toList=true then (⟨(Lib.trimPrefix (Lib.cut s.data.toList [10]).1 word.data.toList).toArray⟩,⟨(Lib.cut s.data.toList [10]).2.1.toArray⟩,e) else (⟨#[]⟩,s,failQ e 2)) else (⟨#[]⟩,s,failQ e 2)
set_option maxHeartbeats 4000000 in
set_option maxRecDepth 100000 in
theorem line_any (w:World) (g:Nat) (s:ByteArray) (e m:Int) (word:ByteArray) (h:Rdr w g s e) (hs:s.size < 4294967281) (hm:w.cell? ⟨0,0,none⟩=some (.int .i64 m)) :
  Calls Tryz.prog 121 #[.pointer (some ⟨g,0,none⟩),.string word] w fun o w'=>o=.returned (.string (lineQ s e word).1)∧Rdr w' g (lineQ s e word).2.1 (lineQ s e word).2.2∧w.grownBy w' (some g):=by
 have c0:=h.c0;have HX:=Lib.hid (Tryz.strings_Cut s ⟨#[10]⟩ m w hs hm);obtain ⟨q,hq⟩:∃ q,lineQ s e word=q:=⟨_,rfl⟩;rw [hq];have HQ:=Lib.hid hq;have H:=Lib.hid h;clear h hq;go_enter Tryz.func121,Tryz.ntmps121;go_wp2_with fail;refine HX.out.mono ?_;rintro o w1 ⟨rfl,n,rfl⟩;have hR1:Rdr (w.drewN n) g s e:=H.out;have HR1:=Lib.hid hR1;have hq:=HQ.out;unfold lineQ at hq;have HP:=Lib.hid (Tryz.strings_CutPrefix ⟨(Lib.cut s.data.toList [10]).1.toArray⟩ word (w.drewN n));have HG:=Lib.hid (show w.grownBy (w.drewN n) (some g) from ⟨rfl,rfl,rfl,Nat.le_refl _,fun _ _ _=>rfl⟩);clear HX HQ;generalize Lib.cut s.data.toList [10]=ct at *;obtain ⟨c1,c2,c3⟩:=ct;simp only at hq HP ⊢;generalize hw1:w.drewN n=w1 at *;have HF:=Lib.hid (fail_any w1 g s e 2 HR1.out);have d0:=HR1.out.c0;have f0:=HR1.out.fr 0;cases hh:Lib.hasPrefix c1 word.data.toList with
 | true =>
  cases c3 with
  | true =>
   rw [if_pos rfl,if_pos hh] at hq;subst hq;have HS:=Lib.hid (HR1.out.set0 ⟨c2.toArray⟩);clear hR1 hw1;rw [hh] at HP;go_wp2_with fail;refine HP.out.mono ?_;rintro o w2 ⟨rfl,rfl⟩;go_wp2;refine bodyPost_ret (results_tmp rfl _ _ _) rfl ?_;exact ⟨rfl,HS.out,grown_trans HG.out (grown_setCell _ _ _ _)⟩
  | false =>
   rw [if_neg (by simp)] at hq;have HN:=Lib.hid hq;rw [hh] at HP;clear hR1 hw1 hq;go_wp2_with fail;refine HP.out.mono ?_;rintro o w2 ⟨rfl,rfl⟩;go_wp2_with fail;refine HF.out.mono ?_;rintro o w3 ⟨rfl,hr3,hg3⟩;have HR3:=Lib.hid hr3;have HG3:=Lib.hid (grown_trans HG.out hg3);clear hr3 hg3 HF;go_wp2;refine bodyPost_ret (results_tmp rfl _ _ _) rfl ?_;rw [← HN.out];exact ⟨rfl,HR3.out,HG3.out⟩
 | false =>
  cases c3 with
  | true =>
   rw [if_pos rfl,if_neg (by rw [hh];simp)] at hq;have HN:=Lib.hid hq;rw [hh] at HP;clear hR1 hw1 hq;go_wp2_with fail;refine HP.out.mono ?_;rintro o w2 ⟨rfl,rfl⟩;go_wp2_with fail;refine HF.out.mono ?_;rintro o w3 ⟨rfl,hr3,hg3⟩;have HR3:=Lib.hid hr3;have HG3:=Lib.hid (grown_trans HG.out hg3);clear hr3 hg3 HF;go_wp2;refine bodyPost_ret (results_tmp rfl _ _ _) rfl ?_;rw [← HN.out];exact ⟨rfl,HR3.out,HG3.out⟩
  | false =>
   rw [if_neg (by simp)] at hq;have HN:=Lib.hid hq;rw [hh] at HP;clear hR1 hw1 hq;go_wp2_with fail;refine HP.out.mono ?_;rintro o w2 ⟨rfl,rfl⟩;go_wp2_with fail;refine HF.out.mono ?_;rintro o w3 ⟨rfl,hr3,hg3⟩;have HR3:=Lib.hid hr3;have HG3:=Lib.hid (grown_trans HG.out hg3);clear hr3 hg3 HF;go_wp2;refine bodyPost_ret (results_tmp rfl _ _ _) rfl ?_;rw [← HN.out];exact ⟨rfl,HR3.out,HG3.out⟩
end Go.Proofs.YtninnmdpnoebaaaGreatDoor.Hand
end
section
namespace Go.Proofs.YtninnmdpnoebaaaGreatDoor.Hand
open Go.RowKit Go.Proofs.YtninnmdpnoebaaaGreatDoorW.PrintWords Go.Proofs.YtninnmdpnoebaaaGreatDoorW.PrintLast Go.Proofs.YtninnmdpnoebaaaGreatDoorW.PrintMore
set_option linter.unusedVariables false
set_option linter.unusedSimpArgs false
theorem grown_then_below {w w1 w2:World} {r:Option Nat} (h:w.grownBy w1 r) (hb:Below w.heap.size w1 w2):w.grownBy w2 r :=
 ⟨hb.os.trans h.os,hb.tape.trans h.tape,hb.output.trans h.output,Nat.le_trans h.size hb.size,fun k hk hne=>(hb.block k hk).trans (h.block k hk hne)⟩
set_option maxHeartbeats 8000000 in
set_option maxRecDepth 100000 in
theorem who_any (w:World) (g:Nat) (s:ByteArray) (e q:Int) (word:ByteArray) (h:Rdr w g s e) (hs:s.size < 4294967281) (hm:w.cell? ⟨0,0,none⟩=some (.int .i64 q)) (hg0:g≠0)
  (n m d zz:ByteArray) (r1 r2:List UInt8) (t zh zm:Int) (H:WhoIs (lineQ s e word).1 n m d zz r1 r2 t zh zm) (hca:∀ wx:World,Calls Tryz.prog 153 #[.string (n++m),.string ⟨#[60,62]⟩] wx fun e w'=>e=.returned (.bool false)∧Below wx.heap.size wx w') :
  Calls Tryz.prog 120 #[.pointer (some ⟨g,0,none⟩),.string word] w fun o w'=>o=.returned (.agg #[.string n,.string m,.int .i64 t,.int .i64 (zoneQ zz zh zm)])∧Rdr w' g (lineQ s e word).2.1 (lineQ s e word).2.2∧w.grownBy w' (some g):=by
 have hlt:=lt_of_block h;generalize hw1:w.alloc (.cells #[.string ⟨#[]⟩,.string ⟨#[]⟩,.int .i64 0,.int .i64 0] 51)=w1;have hb1:Below w.heap.size w w1:=by rw [← hw1];exact (Below.refl _ w).alloc (Nat.le_refl _) _
 have HK1:RowKit.Hid (w1.heap[w.heap.size]? = some (.cells #[.string ⟨#[]⟩,.string ⟨#[]⟩,.int .i64 0,.int .i64 0] 51 (0,0))):=Lib.hid (by rw [← hw1];exact heap_alloc_new _ _);have hm1:w1.cell? ⟨0,0,none⟩=some (.int .i64 q):=(hb1.cell (World.block_lt_of_cell? w _ hm)).trans hm;have hr1:Rdr w1 g s e:=(hb1.block g hlt).trans h;have HX:=Lib.hid (line_any w1 g s e q word hr1 hs hm1);have HG1:=Lib.hid (grown_below hb1 (some g));have HM1:=Lib.hid hm1;have HW1:=Lib.hid hw1;have HH:=Lib.hid H;have HCA:=Lib.hid hca;clear h hs hm hw1 hb1 hm1 hr1 H hca;generalize lineQ s e word=L at *;obtain ⟨v,s',e'⟩:=L;simp only at HH HX ⊢;go_enter Tryz.func120,Tryz.ntmps120;go_upto_region 1 with (fail);rw [HW1.out];go_wp2_with fail;refine HX.out.mono ?_;rintro o w2 ⟨rfl,hr2,hg2⟩;have hm2:w2.cell? ⟨0,0,none⟩=some (.int .i64 q):=hg2.cell HM1.out (by intro e2;injection e2 with e2;exact hg0 e2.symm);have HP:=Lib.hid (parseWho_any v n m d zz r1 r2 t zh zm q HH.out HCA.out w2 hm2);have k2:=(hg2.block w.heap.size (lt_of_block HK1.out) (by intro e2;injection e2 with e2;omega)).trans HK1.out;have HK2:=Lib.hid k2;have HR2:=Lib.hid hr2;have HG2:=Lib.hid (grown_trans HG1.out hg2);clear hr2 hg2 hm2 k2 HX HW1 HM1 HG1 HK1 HCA;go_wp2_with fail;refine HP.out.mono ?_;rintro o w3 ⟨rfl,hb3⟩;have k3:=(hb3.block _ (lt_of_block HK2.out)).trans HK2.out;have HR3:RowKit.Hid (Rdr w3 g s' e'):=Lib.hid ((hb3.block g (lt_of_block HR2.out)).trans HR2.out);have HG3:=Lib.hid (grown_trans HG2.out (grown_below hb3 (some g)));have HK3:=Lib.hid k3;clear hb3 k3 HP HR2 HG2 HK2;go_upto_region 4 with (fail);have hlt3:=lt_of_block HK3.out;have hb4:Below w3.heap.size w3 (w3.alloc (.cells #[.string n,.string m,.int .i64 t,.int .i64 (zoneQ zz zh zm)] 51)):=(Below.refl _ w3).alloc (Nat.le_refl _) _;have k8:(w3.alloc (.cells #[.string n,.string m,.int .i64 t,.int .i64 (zoneQ zz zh zm)] 51)).heap[w3.heap.size]? = some (.cells #[.string n,.string m,.int .i64 t,.int .i64 (zoneQ zz zh zm)] 51 (0,0)):=heap_alloc_new _ _;have k29:=(hb4.block _ hlt3).trans HK3.out;have HB4:RowKit.Hid (Below w.heap.size w3 (w3.alloc (.cells #[.string n,.string m,.int .i64 t,.int .i64 (zoneQ zz zh zm)] 51))):=Lib.hid (hb4.mono (by omega));clear hb4 HK3;generalize w3.heap.size=g8 at *;generalize w3.alloc (.cells #[.string n,.string m,.int .i64 t,.int .i64 (zoneQ zz zh zm)] 51)=w9 at *;have p0:w9.cell? ⟨g8,0,none⟩=some (.string n):=by rw [blk_cell k8 0];rfl
 have p1:w9.cell? ⟨g8,1,none⟩=some (.string m):=by rw [blk_cell k8 1];rfl
 have p2:w9.cell? ⟨g8,2,none⟩=some (.int .i64 t):=by rw [blk_cell k8 2];rfl
 have p3:w9.cell? ⟨g8,3,none⟩=some (.int .i64 (zoneQ zz zh zm)):=by rw [blk_cell k8 3];rfl
 have q0:w9.cell? ⟨w.heap.size,0,none⟩=some (.string ⟨#[]⟩):=by rw [blk_cell k29 0];rfl
 have q1:w9.cell? ⟨w.heap.size,1,none⟩=some (.string ⟨#[]⟩):=by rw [blk_cell k29 1];rfl
 have q2:w9.cell? ⟨w.heap.size,2,none⟩=some (.int .i64 0):=by rw [blk_cell k29 2];rfl
 have q3:w9.cell? ⟨w.heap.size,3,none⟩=some (.int .i64 0):=by rw [blk_cell k29 3];rfl
 have f0:=blk_frozen k29 0;have f1:=blk_frozen k29 1;have f2:=blk_frozen k29 2;have f3:=blk_frozen k29 3;have HFIN:=Lib.hid (blk_set (blk_set (blk_set (blk_set k29 0 (.string n)) 1 (.string m)) 2 (.int .i64 t)) 3 (.int .i64 (zoneQ zz zh zm)));have HBF:=Lib.hid (Below.setCell (Below.setCell (Below.setCell (Below.setCell HB4.out (p:=⟨w.heap.size,0,none⟩) (Nat.le_refl _) (.string n)) (p:=⟨w.heap.size,1,none⟩) (Nat.le_refl _) (.string m)) (p:=⟨w.heap.size,2,none⟩) (Nat.le_refl _) (.int .i64 t)) (p:=⟨w.heap.size,3,none⟩) (Nat.le_refl _) (.int .i64 (zoneQ zz zh zm)));clear k8 k29;go_wp2;refine bodyPost_ret (results_cell_row rfl _ _ w.heap.size 51 _ (0,0) _ rfl HFIN.out Tryz.underlying51 rfl (by kernel_rfl)) rfl ?_;exact ⟨rfl,(HBF.out.block g hlt).trans HR3.out,grown_then_below HG3.out HBF.out⟩
end Go.Proofs.YtninnmdpnoebaaaGreatDoor.Hand
end
section
namespace Go.Proofs.YtninnmdpnoebaaaGreatDoor.Hand
open Go.RowKit Go.Proofs.YtninnmdpnoebaaaGreatDoorW.PrintWords Go.Proofs.YtninnmdpnoebaaaGreatDoorW.PrintLast Go.Proofs.YtninnmdpnoebaaaGreatDoorW.PrintMore
set_option linter.unusedVariables false
set_option linter.unusedSimpArgs false
def hexV (c:UInt8):Int:=Lib.indexByte [48,49,50,51,52,53,54,55,56,57,97,98,99,100,101,102] c
set_option maxHeartbeats 4000000 in
set_option maxRecDepth 100000 in
theorem value_any (c:UInt8) (w:World):Calls Tryz.prog 160 #[.int .u8 (c.toNat:Nat)] w fun e w'=>e=.returned (.int .i64 (hexV c))∧w'=w:=by
 have h:=Tryz.strings_IndexByte ⟨#[48,49,50,51,52,53,54,55,56,57,97,98,99,100,101,102]⟩ (c.toNat:Nat) w;have e:(((c.toNat:Nat):Int)).toNat.toUInt8=c:=by simp
 rw [e] at h;have HX:=Lib.hid h;clear h e;go_enter Tryz.func160,Tryz.ntmps160;go_wp2_with fail;refine HX.out.mono ?_;rintro e w1 ⟨rfl,rfl⟩;go_wp2;refine bodyPost_ret (results_tmp rfl _ _ _) rfl ?_;exact ⟨rfl,rfl⟩
def hexAll (l:List UInt8):Bool:=l.all fun c=>decide (0≤hexV c)
set_option maxHeartbeats 4000000 in
set_option maxRecDepth 100000 in
theorem all_hex_any (s:ByteArray) (hs:s.size≤9223372036854775806) (w:World):Calls Tryz.prog 150 #[.string s] w fun e w'=>e=.returned (.bool (hexAll s.data.toList))∧w'=w:=by
 have HS:=Lib.hid hs;obtain ⟨q,hq⟩:∃ q,hexAll s.data.toList=q:=⟨_,rfl⟩;rw [hq];have HQ:RowKit.Hid (hexAll (s.data.toList.drop 0)=q):=Lib.hid hq;have HQ2:=HQ;clear hq hs;go_enter Tryz.func150,Tryz.ntmps150;go_wp2;go_loopw [6] (fun iv wr=>∃ i:Nat,iv=.int .i64 i∧i≤s.size∧hexAll (s.data.toList.drop i)=q∧wr=w) (fun iv _=>s.size - (intOf iv).toNat)
 case atStart=>exact ⟨0,rfl,Nat.zero_le _,HQ.out,rfl⟩
 case round =>
  obtain ⟨i,rfl,hi,hr,rfl⟩:=hrel;clear HQ HQ2;by_cases ci:(i:Int) < (s.size:Int)
  ·have cb:decide ((i:Int) < (s.size:Int))=true:=decide_eq_true ci;have i0:0≤(i:Int):=by omega
   have hlt:i < s.size:=by omega
   have q4:IntKind.i64.wrap ((i:Int)+1)=(i:Int)+1:=by rw [i64_w];exact wrap64_id (by omega) (by have:=HS.out;omega)
   have hlen:s.data.toList.length=s.size:=by simp
   have hd:s.data.toList.drop i=s[i] :: s.data.toList.drop (i+1):=by
    rw [List.drop_eq_getElem_cons (by rw [hlen];exact hlt)];rfl
   rw [hd] at hr;generalize hc:s[i]=c at hr;have hidx:∀ wx:World,(Instr.index 9 (.string s) (.int .i64 (i:Int))).run Tryz.prog wx=.ok (.int .u8 (c.toNat:Nat)) wx:=fun wx=>by
    rw [run_index_string wx 9 s .i64 (i:Int) Tryz.underlying9,dif_pos ⟨i0,ci⟩,← hc];rfl
   have HX:=Lib.hid (value_any c wr);generalize hv:hexV c=v at *;have hstep:hexAll (c :: s.data.toList.drop (i+1))=(decide (0≤v) && hexAll (s.data.toList.drop (i+1))):=by rw [← hv];rfl
   rw [hstep] at hr;have HR:=Lib.hid hr;clear hr hd hc hstep hv;by_cases cv:v < 0
   ·have cvb:decide (v < 0)=true:=decide_eq_true cv;have hqf:q=false:=by rw [← HR.out,decide_eq_false (by omega)];rfl
    subst hqf;go_wp2_with fail;refine HX.out.mono ?_;rintro e w1 ⟨rfl,rfl⟩;go_wp2;refine bodyPost_ret (results_tmp rfl _ _ _) rfl ?_;exact ⟨rfl,rfl⟩
   ·have cvb:decide (v < 0)=false:=decide_eq_false cv;have HR2:RowKit.Hid (hexAll (s.data.toList.drop (i+1))=q):=Lib.hid (by rw [← HR.out,decide_eq_true (by omega:0≤v)];rfl);go_wp2_with fail;refine HX.out.mono ?_;rintro e w1 ⟨rfl,rfl⟩;go_wp2;exact ⟨⟨i+1,by simp,by omega,HR2.out,by simp⟩,by simp [intOf];omega⟩
  ·have cb:decide ((i:Int) < (s.size:Int))=false:=decide_eq_false ci;have hqt:q=true:=by
    rw [← hr,List.drop_eq_nil_of_le (by simp;omega)];rfl
   subst hqt;clear hr;go_wp2;refine bodyPost_ret (results_tmp rfl _ _ _) rfl ?_;exact ⟨rfl,rfl⟩
def isId (s:ByteArray):Bool:=decide (s.size=40) && hexAll s.data.toList
set_option maxHeartbeats 4000000 in
set_option maxRecDepth 100000 in
theorem isId_any (s:ByteArray) (hs:s.size≤9223372036854775806) (w:World):Calls Tryz.prog 139 #[.string s] w fun e w'=>e=.returned (.bool (isId s))∧w'=w:=by
 have HX:=Lib.hid (all_hex_any s hs w);by_cases c:(s.size:Int)=40
 ·have cb:((s.size:Int) == 40)=true:=by simp [c]
  have hq:isId s=hexAll s.data.toList:=by rw [isId,decide_eq_true (by omega)];rfl
  rw [hq];generalize hexAll s.data.toList=q at *;go_enter Tryz.func139,Tryz.ntmps139;go_wp2_with fail;refine HX.out.mono ?_;rintro e w1 ⟨rfl,rfl⟩;go_wp2;refine bodyPost_ret (results_tmp rfl _ _ _) rfl ?_;exact ⟨rfl,rfl⟩
 ·have cb:((s.size:Int) == 40)=false:=by simp [c]
  have hq:isId s=false:=by rw [isId,decide_eq_false (by omega)];rfl
  rw [hq];go_enter Tryz.func139,Tryz.ntmps139;go_wp2;refine bodyPost_ret (results_tmp rfl _ _ _) rfl ?_;exact ⟨rfl,rfl⟩
end Go.Proofs.YtninnmdpnoebaaaGreatDoor.Hand
end
section
namespace Go.Proofs.YtninnmdpnoebaaaGreatDoor.Hand
open Go.RowKit Go.Proofs.YtninnmdpnoebaaaGreatDoorW.PrintWords Go.Proofs.YtninnmdpnoebaaaGreatDoorW.PrintLast Go.Proofs.YtninnmdpnoebaaaGreatDoorW.PrintMore
set_option linter.unusedVariables false
set_option linter.unusedSimpArgs false
theorem cut_fst_le (l sep:List UInt8):(Lib.cut l sep).1.length≤l.length:=by
 unfold Lib.cut;split
 ·simp only [List.length_take];omega
 ·exact Nat.le_refl _
theorem cut_snd_le (l sep:List UInt8):(Lib.cut l sep).2.1.length≤l.length:=by
 unfold Lib.cut;split
 ·simp only [List.length_drop];omega
 ·simp
theorem trim_le (l p:List UInt8):(Lib.trimPrefix l p).length≤l.length:=by
 unfold Lib.trimPrefix;split
 ·simp only [List.length_drop];omega
 ·exact Nat.le_refl _
theorem ba_size (l:List UInt8):(⟨l.toArray⟩:ByteArray).size=l.length:=by
 show l.toArray.size=_;simp
theorem data_len (s:ByteArray):s.data.toList.length=s.size:=by simp
theorem line_size (s:ByteArray) (e:Int) (word:ByteArray):(lineQ s e word).1.size≤s.size∧(lineQ s e word).2.1.size≤s.size:=by
 have h1:=cut_fst_le s.data.toList [10];have h2:=cut_snd_le s.data.toList [10];have h3:=trim_le (Lib.cut s.data.toList [10]).1 word.data.toList;rw [data_len] at h1 h2;unfold lineQ;split
 ·split
  ·exact ⟨by rw [ba_size];omega,by rw [ba_size];exact h2⟩
  ·exact ⟨Nat.zero_le _,Nat.le_refl _⟩
 ·exact ⟨Nat.zero_le _,Nat.le_refl _⟩
def idQ (s:ByteArray) (e:Int) (word:ByteArray):ByteArray × ByteArray × Int:=((lineQ s e word).1,(lineQ s e word).2.1,if isId (lineQ s e word).1=true then (lineQ s e word).2.2 else failQ (lineQ s e word).2.2 2)
set_option maxHeartbeats 4000000 in
set_option maxRecDepth 100000 in
theorem id_any (w:World) (g:Nat) (s:ByteArray) (e m:Int) (word:ByteArray) (h:Rdr w g s e) (hs:s.size < 4294967281) (hm:w.cell? ⟨0,0,none⟩=some (.int .i64 m)) :
  Calls Tryz.prog 118 #[.pointer (some ⟨g,0,none⟩),.string word] w fun o w'=>o=.returned (.string (idQ s e word).1)∧Rdr w' g (idQ s e word).2.1 (idQ s e word).2.2∧w.grownBy w' (some g):=by
 have HX:=Lib.hid (line_any w g s e m word h hs hm);have hsz:=(line_size s e word).1;obtain ⟨q,hq⟩:∃ q,idQ s e word=q:=⟨_,rfl⟩;rw [hq];unfold idQ at hq;clear h;generalize lineQ s e word=r at *;obtain ⟨v,s',e'⟩:=r;simp only at hq hsz HX;have HI:=Lib.hid (fun wx=>isId_any v (by omega) wx);go_enter Tryz.func118,Tryz.ntmps118;go_wp2_with fail;refine HX.out.mono ?_;rintro o w1 ⟨rfl,hr1,hg1⟩;have HR1:=Lib.hid hr1;have HG1:=Lib.hid hg1;have HI1:=Lib.hid (HI.out w1);have HF:=Lib.hid (fail_any w1 g s' e' 2 hr1);clear hr1 hg1 HI HX;cases hi:isId v with
 | true =>
  rw [if_pos hi] at hq;subst hq;rw [hi] at HI1;go_wp2_with fail;refine HI1.out.mono ?_;rintro o w2 ⟨rfl,rfl⟩;clear HF;go_wp2;refine bodyPost_ret (results_tmp rfl _ _ _) rfl ?_;exact ⟨rfl,HR1.out,HG1.out⟩
 | false =>
  rw [if_neg (by rw [hi];simp)] at hq;subst hq;rw [hi] at HI1;go_wp2_with fail;refine HI1.out.mono ?_;rintro o w2 ⟨rfl,rfl⟩;go_wp2_with fail;refine HF.out.mono ?_;rintro o w3 ⟨rfl,hr3,hg3⟩;have HR3:=Lib.hid hr3;have HG3:=Lib.hid (grown_trans HG1.out hg3);clear hr3 hg3 HF;go_wp2;refine bodyPost_ret (results_tmp rfl _ _ _) rfl ?_;exact ⟨rfl,HR3.out,HG3.out⟩
end Go.Proofs.YtninnmdpnoebaaaGreatDoor.Hand
end
section
namespace Go.Proofs.YtninnmdpnoebaaaGreatDoor.Hand
open Go.RowKit Go.Proofs.YtninnmdpnoebaaaGreatDoorW.PrintWords Go.Proofs.YtninnmdpnoebaaaGreatDoorW.PrintLast Go.Proofs.YtninnmdpnoebaaaGreatDoorW.PrintMore
set_option linter.unusedVariables false
set_option linter.unusedSimpArgs false
set_option maxHeartbeats 4000000 in
set_option maxRecDepth 100000 in
theorem bad_any (s:ByteArray) (hs:s.size≤9223372036854775806) (w:World):Calls Tryz.prog 144 #[.string s] w fun e w'=>e=.returned (.bool (!isId s))∧w'=w:=by
 have HX:=Lib.hid (isId_any s hs w);generalize isId s=q at *;go_enter Tryz.func144,Tryz.ntmps144;go_wp2_with fail;refine HX.out.mono ?_;rintro e w1 ⟨rfl,rfl⟩;go_wp2;refine bodyPost_ret (results_tmp rfl _ _ _) rfl ?_;exact ⟨rfl,rfl⟩
theorem isId_size {s:ByteArray} (h:isId s=true):s.size=40:=by
 unfold isId at h;simp only [Bool.and_eq_true,decide_eq_true_eq] at h;exact h.1
set_option maxHeartbeats 4000000 in
set_option maxRecDepth 100000 in
theorem indexBad_any (A:Option Addr) (c:Nat) (l:List ByteArray) (w:World) (hC:Kd.string.C w A l.length l) (hl:l.length≤4611686018427387903) (h:∀ x∈l,isId x=true) :
  Calls Tryz.prog 156 #[.slice A l.length c,.func (.func 144) #[] #[]] w fun e w'=>e=.returned (.int .i64 (-1))∧w'=w:=by
 have HC:=Lib.hid hC;have H:=Lib.hid h;clear hC h;go_enter Tryz.func156,Tryz.ntmps156;go_wp2;go_loopw [8] (fun iv wr=>∃ i:Nat,iv=.int .i64 i∧i≤l.length∧wr=w) (fun iv _=>l.length - (intOf iv).toNat)
 case atStart=>exact ⟨0,rfl,by omega,rfl⟩
 case round =>
  obtain ⟨i,rfl,hi,rfl⟩:=hrel;by_cases ci:(i:Int) < (l.length:Int)
  ·have cb:decide ((i:Int) < (l.length:Int))=true:=decide_eq_true ci;have i0:0≤(i:Int):=by omega
   have hlt:i < l.length:=by omega
   have q4:IntKind.i64.wrap ((i:Int)+1)=(i:Int)+1:=by rw [i64_w];exact wrap64_id (by omega) (by omega)
   obtain ⟨ad,rfl,hc⟩:=Kd.at_string HC.out (i:Int) i0 ci;have hg:rdOf ByteArray.empty l (i:Int)=l[i]:=by simp [rdOf,hlt]
   rw [hg] at hc;simp only [Int.toNat_natCast] at hc;have hx:=H.out l[i] (List.getElem_mem hlt);generalize l[i]=x at *;have HX:=Lib.hid (bad_any x (by rw [isId_size hx];omega) wr);rw [hx] at HX;clear hx;go_wp2_with fail;refine HX.out.mono ?_;rintro e w1 ⟨rfl,rfl⟩;go_wp2;exact ⟨⟨i+1,by simp,by omega,by simp⟩,by simp [intOf];omega⟩
  ·have cb:decide ((i:Int) < (l.length:Int))=false:=decide_eq_false ci;go_wp2;refine bodyPost_ret (results_tmp rfl _ _ _) rfl ?_;exact ⟨rfl,rfl⟩
set_option maxHeartbeats 4000000 in
set_option maxRecDepth 100000 in
theorem containsBad_any (A:Option Addr) (c:Nat) (l:List ByteArray) (w:World) (hC:Kd.string.C w A l.length l) (hl:l.length≤4611686018427387903) (h:∀ x∈l,isId x=true) :
  Calls Tryz.prog 145 #[.slice A l.length c,.func (.func 144) #[] #[]] w fun e w'=>e=.returned (.bool false)∧w'=w:=by
 have HX:=Lib.hid (indexBad_any A c l w hC hl h);clear hC h;go_enter Tryz.func145,Tryz.ntmps145;go_wp2_with fail;refine HX.out.mono ?_;rintro e w1 ⟨rfl,rfl⟩;go_wp2;refine bodyPost_ret (results_tmp rfl _ _ _) rfl ?_;exact ⟨rfl,rfl⟩
end Go.Proofs.YtninnmdpnoebaaaGreatDoor.Hand
end
section
namespace Go.Proofs.YtninnmdpnoebaaaGreatDoor.Hand
open Go.RowKit Go.Proofs.YtninnmdpnoebaaaGreatDoorW.PrintWords Go.Proofs.YtninnmdpnoebaaaGreatDoorW.PrintLast Go.Proofs.YtninnmdpnoebaaaGreatDoorW.PrintMore
open Go.ChangeMaps
set_option linter.unusedVariables false
set_option linter.unusedSimpArgs false
def addK (ks:List ByteArray) (s:ByteArray):List ByteArray:=if Lib.containsS ks s=true then ks else ks++[s]
theorem modify_set {es:List MapEntry} {j:Nat} {e:MapEntry} (f:MapEntry→MapEntry) (h:es[j]? = some e):es.modify j f=es.set j (f e):=by
 apply List.ext_getElem?;intro i;rw [List.getElem?_modify,List.getElem?_set];by_cases hij:j=i
 ·subst hij;have hlt:=(List.getElem?_eq_some_iff.1 h).1;rw [if_pos rfl,if_pos hlt,h];simp
 ·simp [hij]
section
variable {P:Program} {t k e:TypeId} {w:World} {M c:Nat} {es:List MapEntry}
theorem smap_lay (hm:P.underlying t=some (.map k e)) (hk:P.underlying k=some .string) (h:SMap w M es c) (s:ByteArray) (v:Value) :
  ∃ es' c',(Instr.mapUpdate t (.map (some M)) (.string s) v).run P w=.ok () (setBlock w M (.map es'.toArray c'))∧SMap (setBlock w M (.map es'.toArray c')) M es' c'∧es'.map keyS=addK (es.map keyS) s∧∀ x∈es',x.val=v∧keyS x=s∨x∈es:=by
 by_cases hs:s∈es.map keyS
 ·have hb:=h.blk;have hc:∀ em,(Instr.checkKey em 10000 k (.string s)).run P w=.ok () w:=fun em=>MapKept.run_checkKey (k:=.string s) hk (by simp [MapKept.IsKey]) em 9999;rcases MapKept.findNow_spec (d:=.string) (k:=.string s) trivial es 0 h.isKey with ⟨h1,h2⟩ | ⟨j,e0,h1,h2,h3⟩
  ·exfalso;obtain ⟨x,hx,e⟩:=List.mem_map.1 hs;exact h2 x hx (by rw [h.key x hx,e])
  ·have hx:=List.mem_of_getElem? h2;have hks:keyS e0=s:=by
    have:=h.key e0 hx;rw [h3] at this;injection this with this;exact this.symm
   have hlt:=(List.getElem?_eq_some_iff.1 h2).1;have hj:es.toArray[j]? = some e0:=by simpa using h2
   have hst:(Instr.keyThatStays e0.key (.string s)).run P w=.ok (.string s) w:=by rw [h3];exact MapKept.run_keyThatStays (d:=.string) trivial
   have hmk:(es.set j { e0 with key:=.string s,val:=v }).map keyS=es.map keyS:=by
    rw [List.map_set];apply List.ext_getElem?;intro i;rw [List.getElem?_set];by_cases hij:j=i
    ·subst hij;have he:es[j]=e0:=(List.getElem?_eq_some_iff.1 h2).2;rw [if_pos rfl,if_pos (by simpa using hlt),List.getElem?_map,h2];show some s=some (keyS e0);rw [hks]
    ·simp [hij]
   have hmb:(es.set j { e0 with key:=.string s,val:=v }).map (·.born)=es.map (·.born):=by
    rw [List.map_set];apply List.ext_getElem?;intro i;rw [List.getElem?_set];by_cases hij:j=i
    ·subst hij;rw [if_pos rfl,if_pos (by simpa using hlt),List.getElem?_map,h2];rfl
    ·simp [hij]
   refine ⟨es.set j { e0 with key:=.string s,val:=v },c,?_,⟨by simp [setBlock,h.lt],fun x hx'=>?_,by rw [hmk];exact h.one,fun x hx'=>?_,by rw [hmb];exact h.uni⟩,?_,fun x hx'=>?_⟩
   ·have hmod:=modify_set (fun e:MapEntry=>{ e with key:=.string s,val:=v }) h2;simp [Instr.mapUpdate,run_underlying hm,MapKept.run_getObj_map hb,hc,MapKept.run_findKey hk h1,hj,h2,h3,hst,MapKept.run_keyThatStays (d:=.string) (k:=.string s) trivial,MapKept.run_setObj_map _ hb,Result.andThen,setBlock,hmod]
   ·rcases List.mem_or_eq_of_mem_set hx' with hx' | rfl
    ·exact h.key x hx'
    ·rfl
   ·rcases List.mem_or_eq_of_mem_set hx' with hx' | rfl
    ·exact h.old x hx'
    ·exact h.old e0 hx
   ·rw [hmk,addK,if_pos ((Lib.containsS_iff _ _).2 hs)]
   ·rcases List.mem_or_eq_of_mem_set hx' with hx' | rfl
    ·exact .inr hx'
    ·exact .inl ⟨rfl,rfl⟩
 ·obtain ⟨hrun,hM⟩:=smap_put hm hk h s hs v;refine ⟨es++[newE s v c],c+1,hrun,hM,?_,fun x hx=>?_⟩
  ·rw [keys_put,addK,if_neg (fun h=>hs ((Lib.containsS_iff _ _).1 h))]
  ·rcases List.mem_append.1 hx with hx | hx
   ·exact .inr hx
   ·rw [List.mem_singleton.1 hx];exact .inl ⟨rfl,rfl⟩
end
end Go.Proofs.YtninnmdpnoebaaaGreatDoor.Hand
end
section
namespace Go.Proofs.YtninnmdpnoebaaaGreatDoor.Hand
open Go.RowKit Go.Proofs.YtninnmdpnoebaaaGreatDoorW.PrintWords Go.Proofs.YtninnmdpnoebaaaGreatDoorW.PrintLast Go.Proofs.YtninnmdpnoebaaaGreatDoorW.PrintMore
open Go.ChangeMaps Go.Sort
set_option linter.unusedVariables false
set_option linter.unusedSimpArgs false
def bl (b:ByteArray):List UInt8:=b.data.toList
def unbl (l:List UInt8):ByteArray:=⟨l.toArray⟩
def sortB (ks:List ByteArray):List ByteArray:=((ks.map bl).mergeSort leB).map unbl
theorem sortB_perm {a b:List ByteArray} (h:a.Perm b):sortB a=sortB b:=by
 unfold sortB;rw [mergeSort_of_perm (h.map bl)]
theorem sortB_length (ks:List ByteArray):(sortB ks).length=ks.length:=by simp [sortB]
theorem mem_sortB (ks:List ByteArray) (s:ByteArray):s∈sortB ks↔s∈ks:=by
 simp only [sortB,List.mem_map,List.mem_mergeSort];constructor
 ·rintro ⟨_,⟨x,hx,rfl⟩,rfl⟩;exact hx
 ·exact fun h=>⟨bl s,⟨s,h,rfl⟩,rfl⟩
theorem encs_bl (xs:List ByteArray):xs.map Value.string=(xs.map bl).map encStr:=by
 rw [List.map_map];rfl
theorem encs_unbl (l:List (List UInt8)):(l.map unbl).map Value.string=l.map encStr:=by
 rw [List.map_map];rfl
theorem iterSeen_of {w:World} {r:Nat} {a:Option Nat} {b:Nat} {s:Array Nat} {c:Nat} (h:w.heap[r]? = some (.mapIter a b s c)):w.iterSeen r=s:=by simp [World.iterSeen,h]
def IdRel (w:World) (M c:Nat) (es:List MapEntry) (v:Value) (wr:World):Prop :=
 ∃ (seen:Array Nat) (c0:Nat) (xs:List ByteArray),wr.heap[w.heap.size]? = some (.mapIter (some M) c seen c0)∧c≤c0∧Kd.string.R 9 wr w.heap.size (fun k=>k≠w.heap.size) v xs∧Below w.heap.size w wr ∧
  xs.length+(leftOf es.toArray seen).size≤es.length∧xs.Nodup∧∀ s,s∈xs↔∃ x∈es,seen.contains x.born=true∧keyS x=s
theorem idRel_start (w:World) (M c:Nat) (es:List MapEntry):IdRel w M c es (.slice none 0 0) (w.alloc (.mapIter (some M) c #[] c)) :=
 ⟨#[],c,[],heap_alloc_new _ _,Nat.le_refl _,Kd.R_nil _ _ _ _ _,(Below.refl _ w).alloc (Nat.le_refl _) _,by simp only [List.length_nil,leftOf];rw [Nat.zero_add];exact Nat.le_trans (Array.size_filter_le ..) (by simp),List.nodup_nil,fun s=>by simp⟩
theorem idRel_mem {es:List MapEntry} {c:Nat} {seen:Array Nat} {e:MapEntry} {xs:List ByteArray} {w:World} {M:Nat} (hM:SMap w M es c) (he:e∈(leftOf es.toArray seen).toList) (hcnt:xs.length+(leftOf es.toArray seen).size≤es.length) (hnd:xs.Nodup) (hmem:∀ s,s∈xs↔∃ x∈es,seen.contains x.born=true∧keyS x=s) :
  (xs++[keyS e]).length+(leftOf es.toArray (seen.push e.born)).size≤es.length∧(xs++[keyS e]).Nodup∧∀ s,s∈xs++[keyS e]↔∃ x∈es,(seen.push e.born).contains x.born=true∧keyS x=s:=by
 obtain ⟨hem,hes⟩:=mem_left he;have hem':e∈es:=by simpa using hem
 have hsh:=left_shrinks es.toArray seen e he;have huniq:∀ x∈es,keyS x=keyS e→x=e:=fun x hx hk=>by
  have:=entry_eq_of_key (l:=es) ?_ hx hem' (by rw [hM.key x hx,hM.key e hem',hk])
  ·exact this
  ·have h1:=List.pairwise_map.1 hM.one;refine h1.imp_of_mem (fun {p q} hp hq hne e1=>hne ?_);rw [hM.key p hp,hM.key q hq] at e1;injection e1
 refine ⟨by rw [List.length_append,List.length_singleton];omega,?_,fun s=>?_⟩
 ·rw [List.nodup_append];refine ⟨hnd,by simp,fun a ha b hb=>?_⟩;rw [List.mem_singleton] at hb;subst hb;rintro rfl;obtain ⟨x,hx,hc,hk⟩:=(hmem _).1 ha;rw [huniq x hx hk,hes] at hc;cases hc
 ·rw [List.mem_append,List.mem_singleton,hmem s];constructor
  ·rintro (⟨x,hx,hc,hk⟩ | rfl)
   ·exact ⟨x,hx,by rw [contains_push,hc];rfl,hk⟩
   ·exact ⟨e,hem',by rw [contains_push];simp,rfl⟩
  ·rintro ⟨x,hx,hc,hk⟩;rw [contains_push] at hc;rcases Bool.or_eq_true _ _ ▸ hc with h1 | h1
   ·exact .inl ⟨x,hx,h1,hk⟩
   ·right;have:x=e:=born_inj hM.uni hx hem' (beq_iff_eq.1 h1);rw [← hk,this]
theorem idRel_done {es:List MapEntry} {c:Nat} {seen:Array Nat} {xs:List ByteArray} {w:World} {M:Nat} (hM:SMap w M es c) (h0:(leftOf es.toArray seen).size=0) (hnd:xs.Nodup) (hmem:∀ s,s∈xs↔∃ x∈es,seen.contains x.born=true∧keyS x=s):xs.Perm (es.map keyS):=by
 refine (List.perm_ext_iff_of_nodup hnd hM.one).2 fun s=>?_;rw [hmem s,List.mem_map];constructor
 ·rintro ⟨x,hx,_,hk⟩;exact ⟨x,hx,hk⟩
 ·rintro ⟨x,hx,hk⟩;exact ⟨x,hx,all_seen es.toArray seen h0 x (by simpa using hx),hk⟩
theorem idRel_next {wr w1:World} {b since c0 c:Nat} {seen s2:Array Nat} {r:Nat} (hr:wr.heap[r]? = some (.mapIter (some b) since seen c0)) (hal:w1=wr∨w1=wr.drew) :
  (setBlock w1 r (.mapIter (some b) since s2 c)).heap[r]? = some (.mapIter (some b) since s2 c)∧wr.grownBy (setBlock w1 r (.mapIter (some b) since s2 c)) (some r):=by
 have hlt:=lt_of_block hr;rcases hal with rfl | rfl
 ·exact ⟨by simp [setBlock,hlt],grown_setBlock _ _ _⟩
 ·refine ⟨?_,rfl,rfl,rfl,by simp [setBlock],fun k hk hne=>?_⟩
  ·show (wr.heap.setIfInBounds r _)[r]? = _;simp [hlt]
  ·have:r≠k:=fun e=>hne (by rw [e]);show (wr.heap.setIfInBounds r _)[k]? = _;simp [this]
theorem grown_keep {w w':World} {r:Nat} (h:w.grownBy w' (some r)):KeepBut w w' r none:=⟨h.size,fun i hi hne _=>h.block i hi (by intro e;injection e with e;exact hne e)⟩
theorem infoStr:(Tryz.prog.info? 9).map (fun i=>(i.zero,i.size,i.bytes))=some (some (.string ⟨#[]⟩),1,16):=by kernel_rfl
set_option maxHeartbeats 4000000 in
set_option maxRecDepth 100000 in
theorem ids_any (w:World) (M c:Nat) (es:List MapEntry) (hM:SMap w M es c) (hsz:es.length≤8796093022207) :
  Calls Tryz.prog 40 #[.map (some M)] w fun e w'=>∃ v,e=.returned v∧Kd.string.R 9 w' w.heap.size (fun _=>True) v (sortB (es.map keyS))∧Below w.heap.size w w':=by
 have HM:=Lib.hid hM;have hrg:=run_range_map (P:=Tryz.prog) w 92 9 57 M es.toArray c Tryz.underlying92 hM.blk;have HREL:=Lib.hid (idRel_start w M c es);clear hM;go_enter Tryz.func40,Tryz.ntmps40;go_wp2;go_loopw [3] (fun v wr=>IdRel w M c es v wr) (fun _ wr=>(leftOf es.toArray (wr.iterSeen w.heap.size)).size)
 case atStart=>exact HREL.out
 case round =>
  obtain ⟨seen,c0,xs,hr,hc0,hR,hB,hcnt,hnd,hmem⟩:=hrel;clear HREL;have hMb:wr.heap[M]? = some (.map es.toArray c):=(hB.block M HM.out.lt).trans HM.out.blk;obtain ⟨A,cp,rfl⟩:=Kd.R_slice hR;rcases run_next_at (P:=Tryz.prog) wr 0 w.heap.size M c c0 seen es.toArray c hr hMb (by simpa using HM.out.old) hc0 with ⟨h0,hrun⟩ | ⟨e,he,w1,hal,hrun⟩
  ·have hnx:∀ ty,(Instr.next (.pointer (some ⟨w.heap.size,0,none⟩)) false ty).run Tryz.prog wr=_:=fun _=>hrun;have hper:=sortB_perm (idRel_done HM.out h0 hnd hmem);have hlen:xs.length≤8796093022207:=by omega
   have hrow:=Kd.own_of_R hR;have HB:=Lib.hid hB;rcases hrow.2 with ⟨hnil,hl0⟩ | ⟨g,cap,cur,hv,hbase,hb,h1,h2,h3,h4⟩
   ·have hx0:xs=[]:=List.eq_nil_of_length_eq_zero hl0;subst hx0;simp only [List.length_nil] at hnil hR hrow ⊢;injection hnil with e1 _ e2;subst e1;subst e2;have HX:=Lib.hid (Tryz.slices_Sort_string_none none 0 wr);have HP:=Lib.hid hper;have HR2:=Lib.hid hR;clear hr hR hB hcnt hnd hmem hMb hrow hrun hper h0;go_wp2_with fail;refine HX.out.mono ?_;rintro e w6 ⟨rfl,rfl⟩;go_wp2;refine bodyPost_ret (results_tmp rfl _ _ _) rfl ?_;refine ⟨.slice none 0 0,rfl,?_,HB.out⟩;rw [← HP.out,show sortB []=[] from by simp [sortB]];exact Kd.R_mono HR2.out (fun _ _=>trivial)
   ·injection hv with e1 _ e2;subst e1;subst e2;have hH:Holds encStr wr g 0 (xs.map bl).toArray:=holds_of_block hb (by rw [List.length_map,← encs_bl];simpa [encs] using h4);have HX:=Lib.hid (Tryz.slices_Sort_string g 0 cp (xs.map bl) wr hH (lt_of_block hb) (by rw [List.length_map];omega));rw [List.length_map] at HX;have HOW:=fun (n:Nat) (os:Array Obj)=>ownsRow_sorted (n:=n) (os:=os) (ss:=xs.map bl) (ts:=(xs.map bl).mergeSort leB) (by simp) hbase hb (by rw [List.length_map];exact h1) h2 h3;have HOWH:=Lib.hid HOW;have HP:=Lib.hid hper;have HBA:=Lib.hid hbase;clear hr hR hB hcnt hnd hmem hMb hrow hrun hper h0 HOW h1 h2 h3 h4 hb hbase hH;go_wp2_with fail;refine HX.out.mono ?_;rintro e w6 ⟨rfl,n,os,rfl⟩;have HO:=HOWH.out n os;have HB6:=Lib.hid (HB.out.grown (grownBy_sorted (n:=n) (os:=os) ((xs.map bl).mergeSort leB).toArray) HB.out.size (fun k hk=>by cases hk;exact HBA.out))
    have HR6:RowKit.Hid (Kd.string.R 9 (grow (putRow encStr (Sort.ahead wr n) g 0 ((xs.map bl).mergeSort fun x y=>decide (x≤y)).toArray) os) w.heap.size (fun _=>True) (.slice (some ⟨g,0,none⟩) xs.length cp) (sortB xs)):=Lib.hid (Kd.R_of_own (by
     rw [sortB_length];have:encs Value.string (sortB xs)=((xs.map bl).mergeSort leB).map encStr:=encs_unbl _;rw [this];rw [List.length_map] at HO
     exact HO) (fun _ _=>trivial))
    clear HO HOWH HX;go_wp2;refine bodyPost_ret (results_tmp rfl _ _ _) rfl ?_;exact ⟨_,rfl,by rw [← HP.out];exact HR6.out,HB6.out⟩
  ·have hnx:∀ ty,(Instr.next (.pointer (some ⟨w.heap.size,0,none⟩)) false ty).run Tryz.prog wr=_:=fun _=>hrun;obtain ⟨hcnt2,hnd2,hmem2⟩:=idRel_mem HM.out he hcnt hnd hmem;obtain ⟨hr2,hg2⟩:=idRel_next (c:=c) (s2:=seen.push e.born) hr hal;have hsh:=left_shrinks es.toArray seen e he;have hem:e∈es:=by simpa using (mem_left he).1
   have hke:=HM.out.key e hem;rw [hke] at hnx;generalize hW:setBlock w1 w.heap.size (.mapIter (some M) c (seen.push e.born) c)=W at *;have hB2:=hB.grown hg2 hB.size (fun k hk=>by cases hk;exact Nat.le_refl _);have hR2:=Kd.R_keep hR (grown_keep hg2) (fun k hk=>hk);have hMb2:W.heap[M]? = some (.map es.toArray c):=(hB2.block M HM.out.lt).trans HM.out.blk;have hen:=run_entry_at (P:=Tryz.prog) W w.heap.size M c seen es.toArray c e hr2 hMb2 (mem_left he).1 (by simpa using HM.out.uni);rw [hke] at hen;have hzb:(xs.length+1)*16≤140737488355328:=by rw [List.length_append,List.length_singleton] at hcnt2;omega
   have hbs:=hB2.size;have HR2:=Lib.hid hR2;have HB2:=Lib.hid hB2;have HI2:=Lib.hid hr2;have HC2:=Lib.hid hcnt2;have HN2:=Lib.hid hnd2;have HM2:=Lib.hid hmem2;have HZB:=Lib.hid hzb;have HSH:=Lib.hid hsh;have HIR:=Lib.hid (iterSeen_of hr);have HLT:=Lib.hid (lt_of_block hr2);clear hr hR hB hcnt hnd hmem hMb hrun hR2 hB2 hr2 hcnt2 hnd2 hmem2 hzb hMb2 hsh hg2 hW hbs;go_wp2_with (at_builtin;go_loud (refine Kd.R_append Kd.string (w0:=w) w.heap.size rfl _ _ 27 9 (.string ⟨#[]⟩) 16 rfl Tryz.underlying27 infoStr rfl (by decide) (by decide) (.slice A xs.length cp) xs (keyS e) [.string (keyS e)] (fun k=>k≠w.heap.size) (fun _=>False) rfl (by simp [go_sem]) rfl (fun _ h=>h.elim) (fun k hk=>by have:=HLT.out;omega) HR2.out HB2.out HB2.out.size HZB.out ?_);intro v1 w3 hR3 hB3 hg3 hat3;have HR3:=Lib.hid hR3;have HB3:=Lib.hid hB3;have HG3:=Lib.hid hg3;clear hR3 hB3 hg3 hat3);have hI3:w3.heap[w.heap.size]? = some (.mapIter (some M) c (seen.push e.born) c):=(HG3.out.block _ HLT.out (fun e1=>HR2.out.1 _ e1.symm rfl)).trans HI2.out;refine ⟨⟨seen.push e.born,c,xs++[keyS e],hI3,Nat.le_refl _,HR3.out,HB3.out,HC2.out,HN2.out,HM2.out⟩,?_⟩;rw [iterSeen_of hI3,HIR.out];exact HSH.out
end Go.Proofs.YtninnmdpnoebaaaGreatDoor.Hand
end
section
namespace Go.Proofs.YtninnmdpnoebaaaGreatDoor.Hand
open Go.RowKit Go.Proofs.YtninnmdpnoebaaaGreatDoorW.PrintWords Go.Proofs.YtninnmdpnoebaaaGreatDoorW.PrintLast Go.Proofs.YtninnmdpnoebaaaGreatDoorW.PrintMore
open Go.ChangeMaps
set_option linter.unusedVariables false
set_option linter.unusedSimpArgs false
def Txc (w:World) (p:Option Addr) (l:List ByteArray):Prop:=∀ j,j < l.length→∃ ad,p=some ad∧ad.block < w.heap.size∧w.cell? (ad.add j)=some (.string (l.getD j ByteArray.empty))
theorem Txc.below {w w':World} {p:Option Addr} {l:List ByteArray} (h:Txc w p l) (hb:Below w.heap.size w w'):Txc w' p l:=fun j hj=>by
 obtain ⟨ad,e,hlt,hc⟩:=h j hj;exact ⟨ad,e,Nat.lt_of_lt_of_le hlt hb.size,hb.cell (World.block_lt_of_cell? w _ hc) |>.trans hc⟩
def ThRel (rd:RdQ) (n M N:Nat) (w4:World) (ps:List ByteArray) (r:List ByteArray × Int) (iv:Value) (wr:World):Prop :=
 ∃ (i:Nat) (es:List MapEntry) (c:Nat),iv=.int .i64 i∧i≤ps.length∧SMap wr M es c∧(∀ x∈es,CmV x.val)∧foldQ (visitQ rd n) (es.map keyS) (ps.drop i)=some r∧w4.grownBy wr (some M)
theorem four_allocs (w:World) (o0 o1 o2 o3:Obj):∀ w4,(((w.alloc o0).alloc o1).alloc o2).alloc o3=w4→w4.heap[w.heap.size]? = some o0∧w4.heap[w.heap.size+1]? = some o1∧w4.heap[w.heap.size+1+1]? = some o2∧w4.heap[w.heap.size+1+1+1]? = some o3∧Below w.heap.size w w4:=by
 rintro w4 rfl;have z1:(w.alloc o0).heap.size=w.heap.size+1:=Array.size_push _;have z2:((w.alloc o0).alloc o1).heap.size=w.heap.size+1+1:=by rw [show ((w.alloc o0).alloc o1).heap.size=(w.alloc o0).heap.size+1 from Array.size_push _,z1]
 have z3:(((w.alloc o0).alloc o1).alloc o2).heap.size=w.heap.size+1+1+1:=by rw [show (((w.alloc o0).alloc o1).alloc o2).heap.size=((w.alloc o0).alloc o1).heap.size+1 from Array.size_push _,z2]
 refine ⟨?_,?_,?_,?_,(((Below.refl _ w).alloc (Nat.le_refl _) o0).alloc (by omega) o1).alloc (by omega) o2 |>.alloc (by omega) o3⟩
 ·rw [heap_alloc_old _ _ (by omega),heap_alloc_old _ _ (by omega),heap_alloc_old _ _ (by omega)];exact heap_alloc_new _ _
 ·rw [heap_alloc_old _ _ (by omega),heap_alloc_old _ _ (by omega),← z1];exact heap_alloc_new _ _
 ·rw [heap_alloc_old _ _ (by omega),← z2];exact heap_alloc_new _ _
 ·rw [← z3];exact heap_alloc_new _ _
set_option maxHeartbeats 4000000 in
set_option maxRecDepth 100000 in
theorem through_any (K:World→Prop) (N:Nat) (s0 s1 s2 s3:Value) (rd:RdQ) (hR:Reads K (.agg #[s0,s1,s2,s3]) rd) (w:World) (hK:∀ w w',K w→Below N w w'→K w') (hN:N≤w.heap.size) (n:Nat) (A:Option Addr) (c:Nat) (l:List ByteArray) (r:List ByteArray × Int)
  (hKw:K w) (hl:l.length≤140737488355328) (hT:Txc w A l) (h:foldQ (visitQ rd n) [] l=some r) :
  Calls Tryz.prog 39 #[.agg #[s0,s1,s2,s3],.slice A l.length c] w fun e w'=>(if r.2=0 then ∃ M,e=.returned (.tuple #[.map (some M),.int .i64 0])∧w.heap.size≤M∧VisEnd w' M r.1 else e=.returned (.tuple #[.map none,.int .i64 r.2]))∧Below w.heap.size w w':=by
 have HR:=Lib.hid hR;have HK:=Lib.hid hK;have HT:=Lib.hid hT;have H:=Lib.hid h;have hmk:=fun wx:World=>run_makeMap_plain (P:=Tryz.prog) wx 92;clear hR hK hT h;go_enter Tryz.func39,Tryz.ntmps39;go_upto_region 4 with (fail);generalize hw4:(((w.alloc (.cells #[s0,s1,s2,s3] 29)).alloc (.map #[] 0)).alloc (.cells #[.map (some (w.heap.size+1))] 92)).alloc (.cells #[.func (.func 65) #[] #[.pointer (some ⟨w.heap.size+1+1,0,none⟩),.pointer (some ⟨w.heap.size,0,none⟩),.pointer (some ⟨w.heap.size+1+1+1,0,none⟩)]] 129)=w4;obtain ⟨b0,b1,b2,b3,hb4⟩:=four_allocs w _ _ _ _ w4 hw4;have hE4:Env w4 (w.heap.size+1+1) w.heap.size (w.heap.size+1+1+1) (w.heap.size+1) s0 s1 s2 s3:=⟨b2,b0,b3,by omega,by omega,by omega⟩;have hM4:SMap w4 (w.heap.size+1) [] 0:=⟨b1,fun _ h=>absurd h List.not_mem_nil,by simp,fun _ h=>absurd h List.not_mem_nil,by simp⟩;have hK4:=HK.out w w4 hKw (hb4.mono hN);have HE4:=Lib.hid hE4;have HB4:=Lib.hid hb4;have hML:w.heap.size+1 < w4.heap.size:=hM4.lt;have HREL:RowKit.Hid (ThRel rd n (w.heap.size+1) N w4 l r (.int .i64 (0:Nat)) w4):=Lib.hid ⟨0,[],0,rfl,Nat.zero_le _,hM4,fun _ h=>absurd h List.not_mem_nil,H.out,World.grownBy.refl _ _⟩;clear hw4 b0 b1 b2 b3 hb4 hE4 hM4 H hmk;go_wp2;go_loopw [15] (fun iv wr=>ThRel rd n (w.heap.size+1) N w4 l r iv wr) (fun iv _=>l.length - (intOf iv).toNat)
 case atStart=>exact HREL.out
 case round =>
  obtain ⟨i,es5,c5,rfl,hi,hM5,hV5,hf,hg5⟩:=hrel;clear HREL;by_cases ci:(i:Int) < (l.length:Int)
  ·have cb:decide ((i:Int) < (l.length:Int))=true:=decide_eq_true ci;have i0:0≤(i:Int):=by omega
   have hlt:i < l.length:=by omega
   have q4:IntKind.i64.wrap ((i:Int)+1)=(i:Int)+1:=by rw [i64_w];exact wrap64_id (by omega) (by omega)
   obtain ⟨ad,rfl,hlta,hci0⟩:=HT.out i hlt;have hci:=(HB4.out.cell (World.block_lt_of_cell? w _ hci0)).trans hci0;have hbl:(ad.add i).block=ad.block:=by simp only [Addr.add];split<;>rfl
   have hci2:=hg5.cell hci (by rw [hbl];intro e;injection e with e;omega);rw [List.drop_eq_getElem_cons hlt,foldQ] at hf;have hgi:l.getD i ByteArray.empty=l[i]:=by simp [hlt]
   rw [hgi] at hci2;generalize l[i]=pid at *;obtain ⟨y,hy,hf2⟩:=Option.bind_eq_some_iff.1 hf;have hE5:=HE4.out.grown hg5;have cf:wr.cell? ⟨w.heap.size+1+1+1,0,none⟩=some (.func (.func 65) #[] #[.pointer (some ⟨w.heap.size+1+1,0,none⟩),.pointer (some ⟨w.heap.size,0,none⟩),.pointer (some ⟨w.heap.size+1+1+1,0,none⟩)]):=by rw [Lib.cell_of_heap hE5.f];rfl
   have HX:=Lib.hid (visit_any K N s0 s1 s2 s3 rd HR.out HK.out n (w.heap.size+1+1) w.heap.size (w.heap.size+1+1+1) (w.heap.size+1) c5 es5 pid wr y (HK.out _ _ hK4 (below_grown hg5 (by omega) hML)) (by omega) hE5 hM5 hV5 hy);have HF2:=Lib.hid hf2;have HG5:=Lib.hid hg5;clear hM5 hV5 hf hg5 hy hE5 hf2 hci hci0;go_wp2_with fail;refine HX.out.mono ?_;rintro e w6 ⟨rfl,hend,hg6⟩;have HG6:=Lib.hid (grown_trans HG5.out hg6);clear hg6 HX HG5 cf hci2;obtain ⟨ks,ey⟩:=y;simp only at hend ⊢;have hf2:=HF2.out;simp only at hf2;by_cases ce:ey=0
   ·subst ce;rw [if_pos rfl] at hf2;obtain ⟨es6,c6,hM6,hV6,hk6⟩:=hend;rw [← hk6] at hf2;have HM6:=Lib.hid hM6;have HV6:=Lib.hid hV6;have HF6:=Lib.hid hf2;clear hM6 hV6 hf2 HF2 hk6;go_wp2;exact ⟨⟨i+1,es6,c6,rfl,by omega,HM6.out,HV6.out,HF6.out,HG6.out⟩,by simp [intOf];omega⟩
   ·have ceb:(ey != 0)=true:=by simp [ce]
    rw [if_neg ce] at hf2;obtain rfl:=Option.some.inj hf2;have hw:Below w.heap.size w w6:=HB4.out.trans (below_grown HG6.out (by omega) hML);have HW:=Lib.hid hw;clear hend HF2 hw;go_wp2;refine bodyPost_ret (results_tmp2 rfl _ _ _) rfl ?_;exact ⟨by simp [ce],HW.out⟩
  ·have cb:decide ((i:Int) < (l.length:Int))=false:=decide_eq_false ci;obtain rfl:i=l.length:=by omega
   rw [List.drop_length,foldQ] at hf;obtain rfl:=Option.some.inj hf;have HEND:RowKit.Hid (VisEnd wr (w.heap.size+1) (es5.map keyS)):=Lib.hid ⟨es5,c5,hM5,hV5,rfl⟩;have hE5:=HE4.out.grown hg5;have cm:wr.cell? ⟨w.heap.size+1+1,0,none⟩=some (.map (some (w.heap.size+1))):=by rw [Lib.cell_of_heap hE5.m];rfl
   have HW:=Lib.hid (HB4.out.trans (below_grown hg5 (by omega) hML));clear hM5 hV5 hg5 hf hE5;go_wp2;refine bodyPost_ret (results_tmp2 rfl _ _ _) rfl ?_;exact ⟨⟨w.heap.size+1,rfl,by omega,HEND.out⟩,HW.out⟩
end Go.Proofs.YtninnmdpnoebaaaGreatDoor.Hand
end
section
namespace Go.Proofs.YtninnmdpnoebaaaGreatDoor.Hand
open Go.RowKit Go.Proofs.YtninnmdpnoebaaaGreatDoorW.PrintWords Go.Proofs.YtninnmdpnoebaaaGreatDoorW.PrintLast Go.Proofs.YtninnmdpnoebaaaGreatDoorW.PrintMore
open Go.ChangeMaps
set_option linter.unusedVariables false
set_option linter.unusedSimpArgs false
def AllPost (w:World) (r:List ByteArray × Int) (e:Ending) (w':World):Prop:=(if r.2=0 then ∃ v,e=.returned (.tuple #[v,.int .i64 0])∧Kd.string.R 9 w' w.heap.size (fun _=>True) v (sortB r.1) else e=.returned (.tuple #[.slice none 0 0,.int .i64 r.2]))∧Below w.heap.size w w'
set_option maxHeartbeats 4000000 in
set_option maxRecDepth 100000 in
theorem all_any (K:World→Prop) (N:Nat) (s0 s1 s2 s3:Value) (rd:RdQ) (hR:Reads K (.agg #[s0,s1,s2,s3]) rd) (w:World) (hK:∀ w w',K w→Below N w w'→K w') (hN:N≤w.heap.size) (n:Nat) (A:Option Addr) (c:Nat) (l:List ByteArray) (r:List ByteArray × Int)
  (hKw:K w) (hl:l.length≤140737488355328) (hT:Txc w A l) (h:foldQ (visitQ rd n) [] l=some r) (hsz:r.1.length≤8796093022207) :
  Calls Tryz.prog 23 #[.agg #[s0,s1,s2,s3],.slice A l.length c] w fun e w'=>AllPost w r e w':=by
 have hB0:Below w.heap.size w (w.alloc (.cells #[s0,s1,s2,s3] 29)):=(Below.refl _ w).alloc (Nat.le_refl _) _;have HB0:=Lib.hid hB0;have hs1:(w.alloc (.cells #[s0,s1,s2,s3] 29)).heap.size=w.heap.size+1:=Array.size_push _;have HX:=Lib.hid (through_any K N s0 s1 s2 s3 rd hR (w.alloc (.cells #[s0,s1,s2,s3] 29)) hK (by omega) n A c l r (hK _ _ hKw (hB0.mono hN)) hl (hT.below hB0) h);rw [hs1] at HX;have HSZ:=Lib.hid hsz;clear hR hK hT h hB0 hs1 hsz;go_enter Tryz.func23,Tryz.ntmps23;go_wp2_with fail;refine HX.out.mono ?_;rintro e w1 ⟨hres,hb1⟩;have HB1:=Lib.hid (HB0.out.trans (hb1.mono (Nat.le_succ _)));clear hb1 HX HB0;by_cases hr:r.2=0
 ·rw [if_pos hr] at hres;obtain ⟨M,rfl,hM,hend⟩:=hres;obtain ⟨es,c1,hS,_,hk⟩:=hend;have HI:=Lib.hid (ids_any w1 M c1 es hS (by rw [← hk] at HSZ;simpa using HSZ.out));have HK:=Lib.hid hk;clear hS hk hM;go_wp2_with fail;refine HI.out.mono ?_;rintro e w2 ⟨v,rfl,hR2,hb2⟩;obtain ⟨A2,c2,rfl⟩:=Kd.R_slice hR2;have HR2:=Lib.hid hR2;have HB2:=Lib.hid hb2;clear hR2 hb2 HI;go_wp2;refine bodyPost_ret (results_tmp2 rfl _ _ _) rfl ?_;unfold AllPost;refine ⟨?_,HB1.out.trans (HB2.out.mono HB1.out.size)⟩;rw [if_pos hr];exact ⟨_,rfl,by rw [← HK.out];exact Kd.R_lower HR2.out HB1.out.size⟩
 ·rw [if_neg hr] at hres;obtain rfl:=hres;have ceb:(r.2 != 0)=true:=by simp [hr]
  go_wp2;refine bodyPost_ret (results_tmp2 rfl _ _ _) rfl ?_;unfold AllPost;refine ⟨?_,HB1.out⟩;rw [if_neg hr];rfl
end Go.Proofs.YtninnmdpnoebaaaGreatDoor.Hand
end
section
namespace Go.Proofs.YtninnmdpnoebaaaGreatDoor.Hand
open Go.RowKit Go.Proofs.YtninnmdpnoebaaaGreatDoorW.PrintWords Go.Proofs.YtninnmdpnoebaaaGreatDoorW.PrintLast Go.Proofs.YtninnmdpnoebaaaGreatDoorW.PrintMore
open Go.ChangeMaps
set_option linter.unusedVariables false
set_option linter.unusedSimpArgs false
def Keeps (w w':World):Prop:=∀ p v,w.cell? p=some v→w'.cell? p=some v
theorem Keeps.refl (w:World):Keeps w w:=fun _ _ h=>h
theorem Keeps.trans {a b c:World} (h:Keeps a b) (k:Keeps b c):Keeps a c:=fun p v hv=>k p v (h p v hv)
theorem keeps_below {w w':World} (h:Below w.heap.size w w'):Keeps w w':=fun p v hv=>(h.cell (World.block_lt_of_cell? w _ hv)).trans hv
theorem keeps_map {w:World} {M c:Nat} {es:List MapEntry} (h:SMap w M es c) (o:Obj):Keeps w (setBlock w M o):=fun p v hv=>cell_setBlock h.blk hv
def RowV (w:World) (v:Value) (l:List ByteArray):Prop:=∃ A c,v=.slice A l.length c∧l.length≤c∧Kd.string.C w A l.length l
theorem RowV.keep {w w':World} {v:Value} {l:List ByteArray} (h:RowV w v l) (hk:Keeps w w'):RowV w' v l:=by
 obtain ⟨A,c,e,hc,h1,h2,h3⟩:=h;refine ⟨A,c,e,hc,h1,h2,fun hn=>?_⟩;obtain ⟨ad,ea,hp⟩:=h3 hn;refine ⟨ad,ea,fun j p hj=>?_⟩;obtain ⟨cs,q1,q2,q3⟩:=hp j p hj;exact ⟨cs,q1,q2,fun i u hu=>hk _ _ (q3 i u hu)⟩
theorem RowV.of_R {w:World} {base:Nat} {ok:Nat→Prop} {v:Value} {l:List ByteArray} (h:Kd.string.R 9 w base ok v l):RowV w v l:=by
 obtain ⟨A,c,he,hl,hr⟩:=Kd.R_reads h;exact ⟨A,c,he,hl,hr⟩
structure RecS (K:World→Prop) (w:World) (b M:Nat) (s0 s1 s2 s3 o0 o1 o2 o3 o4:Value) (anc:ByteArray→List ByteArray) (ids:List ByteArray):Prop where
 blk:w.heap[b]? = some (.cells #[s0,s1,s2,s3,o0,o1,o2,o3,o4,.map (some M)] 65 (0,0))
 K:K w
 known:∃ es c,SMap w M es c∧es.map keyS=ids∧∀ x∈es,RowV w x.val (anc (keyS x))
section
variable {K:World→Prop} {w w':World} {b M:Nat} {s0 s1 s2 s3 o0 o1 o2 o3 o4:Value} {anc:ByteArray→List ByteArray} {ids:List ByteArray}
theorem RecS.lt (h:RecS K w b M s0 s1 s2 s3 o0 o1 o2 o3 o4 anc ids):M < w.heap.size:=by
 obtain ⟨es,c,hS,_⟩:=h.known;exact hS.lt
theorem RecS.below (h:RecS K w b M s0 s1 s2 s3 o0 o1 o2 o3 o4 anc ids) (hb:Below w.heap.size w w') (hK:K w'):RecS K w' b M s0 s1 s2 s3 o0 o1 o2 o3 o4 anc ids:=by
 obtain ⟨es,c,hS,hk,hv⟩:=h.known;exact ⟨(hb.block b (lt_of_block h.blk)).trans h.blk,hK,es,c,hS.kept (hb.block M hS.lt),hk,fun x hx=>(hv x hx).keep (keeps_below hb)⟩
end
theorem zero_strs (w:World):(zeroValue 27).run Tryz.prog w=.ok (.slice none 0 0) w:=by kernel_rfl
def Good (rd:RdQ) (n:Nat) (anc:ByteArray→List ByteArray) (id:ByteArray):Prop:=∃ ks,foldQ (visitQ rd n) [] [id]=some (ks,0)∧anc id=sortB ks∧ks.length≤8796093022207
def UpPost (K:World→Prop) (w:World) (b M:Nat) (s0 s1 s2 s3 o0 o1 o2 o3 o4:Value) (anc:ByteArray→List ByteArray) (id:ByteArray) (e:Ending) (w':World):Prop :=
 ∃ v ids',e=.returned v∧RowV w' v (anc id)∧RecS K w' b M s0 s1 s2 s3 o0 o1 o2 o3 o4 anc ids'∧w.grownBy w' (some M)∧Keeps w w'
set_option maxHeartbeats 4000000 in
set_option maxRecDepth 100000 in
theorem up_any (K:World→Prop) (N:Nat) (s0 s1 s2 s3 o0 o1 o2 o3 o4:Value) (rd:RdQ) (hR:Reads K (.agg #[s0,s1,s2,s3]) rd) (hK:∀ w w',K w→Below N w w'→K w') (n:Nat) (anc:ByteArray→List ByteArray) (w:World) (b M:Nat) (ids:List ByteArray) (id:ByteArray)
  (hN:N≤M) (hS:RecS K w b M s0 s1 s2 s3 o0 o1 o2 o3 o4 anc ids) (hG:Good rd n anc id) :
  Calls Tryz.prog 13 #[.pointer (some ⟨b,0,none⟩),.string id] w fun e w'=>UpPost K w b M s0 s1 s2 s3 o0 o1 o2 o3 o4 anc id e w':=by
 obtain ⟨es,c,hM,hk,hv⟩:=hS.known;obtain ⟨v,hlk,hz,hin⟩:=smap_look Tryz.underlying63 Tryz.underlying9 zero_strs hM id;have cm:w.cell? ⟨b,9,none⟩=some (.map (some M)):=by rw [Lib.cell_of_heap hS.blk];rfl
 by_cases hc:Lib.containsS (es.map keyS) id=true
 ·have hmem:=(Lib.containsS_iff _ _).1 hc;obtain ⟨x,hx,hkx,hxv⟩:=hin hmem;have hrow:=hv x hx;rw [hkx,hxv] at hrow;rw [hc] at hlk;have HROW:=Lib.hid hrow;have HS:=Lib.hid hS;obtain ⟨A,cp,rfl,_⟩:=hrow;clear hz hin hc hmem hx hkx hxv hv hk hM hS hR hK hG;go_enter Tryz.func13,Tryz.ntmps13;go_wp2;refine bodyPost_ret (results_tmp rfl _ _ _) rfl ?_;exact ⟨_,ids,rfl,HROW.out,HS.out,World.grownBy.refl _ _,Keeps.refl _⟩
 ·have hcb:Lib.containsS (es.map keyS) id=false:=by simpa using hc
  rw [hcb] at hlk;have hnew:id ∉ es.map keyS:=fun hm=>hc ((Lib.containsS_iff _ _).2 hm);obtain rfl:=hz hnew;obtain ⟨ks,hf,ha,hl⟩:=hG;have c0:w.cell? ⟨b,0,none⟩=some s0:=by rw [Lib.cell_of_heap hS.blk];rfl
  have c1:w.cell? ⟨b,1,none⟩=some s1:=by rw [Lib.cell_of_heap hS.blk];rfl
  have c2:w.cell? ⟨b,2,none⟩=some s2:=by rw [Lib.cell_of_heap hS.blk];rfl
  have c3:w.cell? ⟨b,3,none⟩=some s3:=by rw [Lib.cell_of_heap hS.blk];rfl
  have hB0:Below w.heap.size w (w.alloc (.cells #[.string id] 9)):=(Below.refl _ w).alloc (Nat.le_refl _) _;have hML:=hM.lt;have hT:Txc (w.alloc (.cells #[.string id] 9)) (some ⟨w.heap.size,0,none⟩) [id]:=fun j hj=>by
   have:j=0:=by simpa using hj
   subst this;exact ⟨_,rfl,by show w.heap.size < _;rw [show (w.alloc (.cells #[.string id] 9)).heap.size=w.heap.size+1 from Array.size_push _];omega,by show World.cell? _ ⟨w.heap.size,0,none⟩=_;rw [Lib.cell_of_heap (heap_alloc_new w _)];rfl⟩
  have HX:=Lib.hid (all_any K N s0 s1 s2 s3 rd hR (w.alloc (.cells #[.string id] 9)) hK (by have:=hB0.size;omega) n (some ⟨w.heap.size,0,none⟩) 1 [id] (ks,0) (hK _ _ hS.K (hB0.mono (by omega))) (by simp) hT hf hl);have HS:=Lib.hid hS;have HB0:=Lib.hid hB0;have HM:=Lib.hid hM;have HV:=Lib.hid hv;have HN:=Lib.hid hnew;have HKK:=Lib.hid hK;have HA:=Lib.hid ha;have HKS:=Lib.hid hk;clear hz hin hc hcb hv hk hM hS hR hK hB0 hT hf hnew ha;go_enter Tryz.func13,Tryz.ntmps13;go_wp2_with fail;refine HX.out.mono ?_;rintro e w1 ⟨hres,hb1⟩;rw [if_pos rfl] at hres;obtain ⟨v,rfl,hrow⟩:=hres;have hB1:=HB0.out.trans (hb1.mono HB0.out.size);have hrv:RowV w1 v (anc id):=by rw [HA.out];exact RowV.of_R hrow
  have hS1:=HS.out.below hB1 (HKK.out _ _ HS.out.K (hB1.mono (by omega)));have hM1:=HM.out.kept (hB1.block M hML);have cm1:w1.cell? ⟨b,9,none⟩=some (.map (some M)):=by rw [Lib.cell_of_heap hS1.blk];rfl
  obtain ⟨hrun,hM2⟩:=smap_put Tryz.underlying63 Tryz.underlying9 hM1 id HN.out v;have hkp:=keeps_map hM1 (.map (es++[newE id v c]).toArray (c+1));have hgs:=grown_setBlock w1 M (.map (es++[newE id v c]).toArray (c+1));have hbM:b≠M:=fun e=>by
   have h1:=HS.out.blk;rw [e,HM.out.blk] at h1;cases h1
  have HRV:=Lib.hid hrv;have hK2:K (setBlock w1 M (.map (es++[newE id v c]).toArray (c+1))):=HKK.out _ _ HS.out.K (below_grown (grown_trans (grown_below hB1 (some M)) hgs) hN hML);have hS2:RecS K (setBlock w1 M (.map (es++[newE id v c]).toArray (c+1))) b M s0 s1 s2 s3 o0 o1 o2 o3 o4 anc (ids++[id]):=by
   refine ⟨(hgs.block b (lt_of_block hS1.blk) (by intro e;injection e with e;exact hbM e)).trans hS1.blk,hK2,es++[newE id v c],c+1,hM2,by rw [keys_put,HKS.out],fun x hx=>?_⟩;rcases List.mem_append.1 hx with hx | hx
   ·exact ((HV.out x hx).keep (keeps_below hB1)).keep hkp
   ·rw [List.mem_singleton.1 hx];exact hrv.keep hkp
  have HS2:=Lib.hid hS2;have HKP:=Lib.hid ((keeps_below hB1).trans hkp);have HG2:=Lib.hid (grown_trans (grown_below hB1 (some M)) hgs);have HRV2:=Lib.hid (hrv.keep hkp);obtain ⟨A,cp,rfl,_⟩:=hrv;clear hrow hB1 hS1 hM1 hM2 hkp hgs hK2 hS2 hb1 HX;go_wp2;refine bodyPost_ret (results_tmp rfl _ _ _) rfl ?_;exact ⟨_,ids++[id],rfl,HRV2.out,HS2.out,HG2.out,HKP.out⟩
end Go.Proofs.YtninnmdpnoebaaaGreatDoor.Hand
end
section
namespace Go.Proofs.YtninnmdpnoebaaaGreatDoor.Hand
open Go.RowKit Go.Proofs.YtninnmdpnoebaaaGreatDoorW.PrintWords Go.Proofs.YtninnmdpnoebaaaGreatDoorW.PrintLast Go.Proofs.YtninnmdpnoebaaaGreatDoorW.PrintMore
open Go.ChangeMaps
set_option linter.unusedVariables false
set_option linter.unusedSimpArgs false
section
variable {P:Program} {t k e:TypeId} {w:World} {M c:Nat} {es:List MapEntry}
theorem smap_miss (hm:P.underlying t=some (.map k e)) (hk:P.underlying k=some .string) {z:Value} (hz:∀ w,(zeroValue e).run P w=.ok z w) (h:SMap w M es c) (s:ByteArray) (hs:s ∉ es.map keyS) :
  (Instr.lookup t (.map (some M)) (.string s) false).run P w=.ok z w:=by
 have hc:∀ em,(Instr.checkKey em 10000 k (.string s)).run P w=.ok () w:=fun em=>MapKept.run_checkKey (k:=.string s) hk (by simp [MapKept.IsKey]) em 9999;have hb:=h.blk;rcases MapKept.findNow_spec (d:=.string) (k:=.string s) trivial es 0 h.isKey with ⟨h1,h2⟩ | ⟨j,e0,h1,h2,h3⟩
 ·simp [Instr.lookup,run_underlying hm,MapKept.run_getObj_map hb,hc,MapKept.run_findKey hk h1,hz,Result.andThen]
 ·exfalso;have hx:=List.mem_of_getElem? h2;have:=h.key e0 hx;rw [h3] at this;injection this with this;exact hs (List.mem_map.2 ⟨e0,hx,this.symm⟩)
end
theorem zero_bool (w:World):(zeroValue 4).run Tryz.prog w=.ok (.bool false) w:=by kernel_rfl
structure CmOk (tr:ByteArray) (l:List ByteArray) (an am:ByteArray) (at_ az:Int) (cn cm:ByteArray) (ct cz:Int) (x:ByteArray):Prop where
 tree:isId tr=true
 ups:∀ y∈l,isId y=true
 author:WhoOk an am at_ az
 committer:WhoOk cn cm ct cz
 text:decide (0≤Lib.indexByte x.data.toList 0)=false
 size:x.size≤4096
 few:l.length≤8
 one:l.Nodup
set_option maxHeartbeats 8000000 in
set_option maxRecDepth 100000 in
theorem check_any (tr:ByteArray) (A:Option Addr) (c:Nat) (l:List ByteArray) (an am:ByteArray) (at_ az:Int) (cn cm:ByteArray) (ct cz:Int) (x:ByteArray) (H:CmOk tr l an am at_ az cn cm ct cz x) (w:World) (hC:Kd.string.C w A l.length l) :
  Calls Tryz.prog 123 #[.agg #[.string tr,.slice A l.length c,.string an,.string am,.int .i64 at_,.int .i64 az,.string cn,.string cm,.int .i64 ct,.int .i64 cz,.string x]] w fun e w'=>e=.returned (.int .i64 0)∧Below w.heap.size w w':=by
 have hmk:=fun wx:World=>run_makeMap_plain (P:=Tryz.prog) wx 198;generalize hw1:w.alloc (.cells #[.string tr,.slice A l.length c,.string an,.string am,.int .i64 at_,.int .i64 az,.string cn,.string cm,.int .i64 ct,.int .i64 cz,.string x] 57)=w1;have hb1:Below w.heap.size w w1:=by rw [← hw1];exact (Below.refl _ w).alloc (Nat.le_refl _) _
 have k1:w1.heap[w.heap.size]? = some (.cells #[.string tr,.slice A l.length c,.string an,.string am,.int .i64 at_,.int .i64 az,.string cn,.string cm,.int .i64 ct,.int .i64 cz,.string x] 57 (0,0)):=by rw [← hw1];exact heap_alloc_new _ _
 have HB1:=Lib.hid hb1;have HK1:=Lib.hid k1;have HW1:=Lib.hid hw1;have HH:=Lib.hid H;have hC1:=Kd.C_below hC hb1;have HC0:=Lib.hid hC;have HC1:=Lib.hid hC1;have c0:w1.cell? ⟨w.heap.size,0,none⟩=some (.string tr):=by rw [blk_cell k1 0];rfl
 have c1:w1.cell? ⟨w.heap.size,1,none⟩=some (.slice A l.length c):=by rw [blk_cell k1 1];rfl
 have c2:w1.cell? ⟨w.heap.size,2,none⟩=some (.string an):=by rw [blk_cell k1 2];rfl
 have c3:w1.cell? ⟨w.heap.size,3,none⟩=some (.string am):=by rw [blk_cell k1 3];rfl
 have c4:w1.cell? ⟨w.heap.size,4,none⟩=some (.int .i64 at_):=by rw [blk_cell k1 4];rfl
 have c5:w1.cell? ⟨w.heap.size,5,none⟩=some (.int .i64 az):=by rw [blk_cell k1 5];rfl
 have HT:=Lib.hid (bad_any tr (by rw [isId_size H.tree];omega) w1);rw [H.tree] at HT;have HU:=Lib.hid (containsBad_any A c l w1 hC1 (by have:=H.few;omega) H.ups);have HS1:=Lib.hid (somebody_any an am at_ az H.author w1);clear hw1 hb1 k1 hC hC1 H;go_enter Tryz.func123,Tryz.ntmps123;go_upto_region 2 with (fail);rw [HW1.out];go_wp2_with fail;refine HT.out.mono ?_;rintro e w2 ⟨rfl,rfl⟩;go_wp2_with fail;refine HU.out.mono ?_;rintro e w2 ⟨rfl,rfl⟩;go_wp2_with fail;refine HS1.out.mono ?_;rintro e w3 ⟨rfl,hb3⟩;have k3:=(hb3.block _ (lt_of_block HK1.out)).trans HK1.out;have HB3:=Lib.hid (HB1.out.trans (hb3.mono HB1.out.size));clear hb3 c0 c1 c2 c3 c4 c5 HT HU HS1;have c6:w3.cell? ⟨w.heap.size,6,none⟩=some (.string cn):=by rw [blk_cell k3 6];rfl
 have c7:w3.cell? ⟨w.heap.size,7,none⟩=some (.string cm):=by rw [blk_cell k3 7];rfl
 have c8:w3.cell? ⟨w.heap.size,8,none⟩=some (.int .i64 ct):=by rw [blk_cell k3 8];rfl
 have c9:w3.cell? ⟨w.heap.size,9,none⟩=some (.int .i64 cz):=by rw [blk_cell k3 9];rfl
 have HK3:=Lib.hid k3;have HS2:=Lib.hid (somebody_any cn cm ct cz HH.out.committer w3);clear k3;go_wp2_with fail;refine HS2.out.mono ?_;rintro e w4 ⟨rfl,hb4⟩;have k4:=(hb4.block _ (lt_of_block HK3.out)).trans HK3.out;have HB4:=Lib.hid (HB3.out.trans (hb4.mono HB3.out.size));clear hb4 c6 c7 c8 c9 HS2;have c10:w4.cell? ⟨w.heap.size,10,none⟩=some (.string x):=by rw [blk_cell k4 10];rfl
 have c1:w4.cell? ⟨w.heap.size,1,none⟩=some (.slice A l.length c):=by rw [blk_cell k4 1];rfl
 have HK4:=Lib.hid k4;have htx:=Tryz.strings_Contains_one x 0 w4;rw [HH.out.text] at htx;have HTX:=Lib.hid htx;have y1:decide ((x.size:Int) > 4096)=false:=decide_eq_false (by have:=HH.out.size;omega);have y1':decide ((4096:Int) < (x.size:Int))=false:=decide_eq_false (by have:=HH.out.size;omega);have y2:decide ((l.length:Int) > 8)=false:=decide_eq_false (by have:=HH.out.few;omega);have y2':decide ((8:Int) < (l.length:Int))=false:=decide_eq_false (by have:=HH.out.few;omega);clear k4 htx;go_wp2_with fail;refine HTX.out.mono ?_;rintro e w5 ⟨rfl,rfl⟩;clear HTX;go_upto_region 7 with (fail);have hb6:=HB4.out.alloc HB4.out.size (.map #[] 0);have hM6:SMap (w5.alloc (.map #[] 0)) w5.heap.size [] 0:=⟨heap_alloc_new _ _,fun _ h=>absurd h List.not_mem_nil,by simp,fun _ h=>absurd h List.not_mem_nil,by simp⟩;have c16:(w5.alloc (.map #[] 0)).cell? ⟨w.heap.size,1,none⟩=some (.slice A l.length c):=by
  rw [World.cell?_of_block (w:=w5) (a:=⟨w.heap.size,1,none⟩) (heap_alloc_old _ _ (lt_of_block HK4.out))];exact c1
 have HREL:RowKit.Hid (∃ (i:Nat) (es:List MapEntry) (cl:Nat),Value.int .i64 (0:Int)=.int .i64 i∧i≤l.length∧SMap (w5.alloc (.map #[] 0)) w5.heap.size es cl∧es.map keyS=l.take i∧Below w.heap.size w (w5.alloc (.map #[] 0))):=Lib.hid ⟨0,[],0,rfl,Nat.zero_le _,hM6,by simp,hb6⟩;have hMs:w.heap.size≤w5.heap.size:=HB4.out.size;clear c1 c10 hb6 hM6 y1 y1' y2 y2' HK1 HK3 HK4 HW1 HC1 HB1 HB3 HB4 hmk;generalize hM:w5.heap.size=M at *;generalize w5.alloc (.map #[] 0)=w6 at *;go_wp2;go_loopw [48] (fun iv wr=>∃ (i:Nat) (es:List MapEntry) (cl:Nat),iv=.int .i64 i∧i≤l.length∧SMap wr M es cl∧es.map keyS=l.take i∧Below w.heap.size w wr) (fun iv _=>l.length - (intOf iv).toNat)
 case atStart=>exact HREL.out
 case round =>
  obtain ⟨i,es,cl,rfl,hi,hMr,hks,hB⟩:=hrel;clear HREL;have HB:=Lib.hid hB;by_cases ci:(i:Int) < (l.length:Int)
  ·have cb:decide ((i:Int) < (l.length:Int))=true:=decide_eq_true ci;have i0:0≤(i:Int):=by omega
   have hlt:i < l.length:=by omega
   have q4:IntKind.i64.wrap ((i:Int)+1)=(i:Int)+1:=by rw [i64_w];exact wrap64_id (by omega) (by have:=HH.out.few;omega)
   obtain ⟨ad,rfl,hc⟩:=Kd.at_string (Kd.C_below HC0.out hB) (i:Int) i0 ci;have hg:rdOf ByteArray.empty l (i:Int)=l[i]:=by simp [rdOf,hlt]
   rw [hg] at hc;simp only [Int.toNat_natCast] at hc;have hnew:l[i] ∉ es.map keyS:=by
    rw [hks];intro hm;obtain ⟨j,hj,he⟩:=List.getElem_of_mem hm;rw [List.length_take] at hj;rw [List.getElem_take] at he;have:=(List.pairwise_iff_getElem.1 HH.out.one) j i (by omega) hlt (by omega);exact this he
   have hlk:=smap_miss Tryz.underlying198 Tryz.underlying9 zero_bool hMr l[i] hnew;obtain ⟨hrun,hM2⟩:=smap_put Tryz.underlying198 Tryz.underlying9 hMr l[i] hnew (.bool true);have hk2:(es++[newE l[i] (.bool true) cl]).map keyS=l.take (i+1):=by rw [keys_put,hks,List.take_add_one,List.getElem?_eq_getElem hlt];rfl
   have hB2:=hB.grown (grown_setBlock wr M (.map (es++[newE l[i] (.bool true) cl]).toArray (cl+1))) hB.size (fun k hk=>by cases hk;exact hMs);generalize l[i]=y at *;have HREL2:=Lib.hid (⟨i+1,es++[newE y (.bool true) cl],cl+1,rfl,by omega,hM2,hk2,hB2⟩:∃ (j:Nat) (es':List MapEntry) (cl':Nat),Value.int .i64 ((i+1:Nat):Int)=.int .i64 j∧j≤l.length∧SMap (setBlock wr M (.map (es++[newE y (.bool true) cl]).toArray (cl+1))) M es' cl'∧es'.map keyS=l.take j∧Below w.heap.size w (setBlock wr M (.map (es++[newE y (.bool true) cl]).toArray (cl+1))));clear hM2 hk2 hB2 hB hMr hks hnew;go_wp2;exact ⟨HREL2.out,by simp [intOf];omega⟩
  ·have cb:decide ((i:Int) < (l.length:Int))=false:=decide_eq_false ci;clear hMr hks hB;go_wp2;refine bodyPost_ret (results_tmp rfl _ _ _) rfl ?_;exact ⟨rfl,HB.out⟩
end Go.Proofs.YtninnmdpnoebaaaGreatDoor.Hand
end
section
namespace Go.Proofs.YtninnmdpnoebaaaGreatDoor.Hand
open Go.RowKit Go.Proofs.YtninnmdpnoebaaaGreatDoorW.PrintWords Go.Proofs.YtninnmdpnoebaaaGreatDoorW.PrintLast Go.Proofs.YtninnmdpnoebaaaGreatDoorW.PrintMore
set_option linter.unusedVariables false
set_option linter.unusedSimpArgs false
set_option maxHeartbeats 4000000 in
set_option maxRecDepth 100000 in
theorem containsAny_long (s:ByteArray) (w:World) (h8:8 < s.size) (hs:s.size < 4294967281) (hno:Lib.indexAny s.data.toList [60,62]=-1) :
  Calls Tryz.prog 153 #[.string s,.string ⟨#[60,62]⟩] w fun e w'=>e=.returned (.bool false)∧Below w.heap.size w w':=by
 have h:=Tryz.strings_IndexAny_long (fun w=>by kernel_rfl) s ⟨#[60,62]⟩ w (by decide) h8 hs (by decide) (fun j b hj=>by
  have hm:b∈([60,62]:List UInt8):=List.mem_of_getElem? hj;simp at hm
  rcases hm with rfl | rfl<;>decide)
 rw [show (⟨#[60,62]⟩:ByteArray).data.toList=[60,62] from rfl,hno] at h;have HB:=Lib.hid (((Below.refl w.heap.size w).alloc (Nat.le_refl _) (.cells (Lib.setCells [60,62]) 213)).alloc (by simp) (.cells (Lib.setCells [60,62]) 213));have HX:=Lib.hid h;clear h;go_enter Tryz.func153,Tryz.ntmps153;go_wp2_with fail;refine HX.out.mono ?_;rintro e w1 ⟨rfl,rfl⟩;go_wp2;refine bodyPost_ret (results_tmp rfl _ _ _) rfl ?_;exact ⟨rfl,HB.out⟩
end Go.Proofs.YtninnmdpnoebaaaGreatDoor.Hand
end
section
namespace Go.Proofs.YtninnmdpnoebaaaGreatDoor.Hand
open Go.RowKit Go.Proofs.YtninnmdpnoebaaaGreatDoorW.PrintWords Go.Proofs.YtninnmdpnoebaaaGreatDoorW.PrintLast Go.Proofs.YtninnmdpnoebaaaGreatDoorW.PrintMore
open Go.ChangeMaps
set_option linter.unusedVariables false
set_option linter.unusedSimpArgs false
theorem decode_facts (s:ByteArray) (i:Nat) (hi:i < s.size):∃ c n,Utf8.decode s i=(c,n)∧1≤n∧i+n≤s.size∧(c=(s[i]'hi).toNat∧(s[i]'hi).toNat < 128∨128≤c∧c < 2097152):=by
 have e:s.get! (i+0)=s[i]'hi:=by
  show s.get! i=_;simp [ByteArray.get!,getElem!_pos,hi];rfl
 have hb:(s[i]'hi).toNat < 256:=UInt8.toNat_lt _;generalize s[i]'hi=b at *;unfold Utf8.decode;simp only [e,Utf8.runeError];by_cases h0:b.toNat < 128
 ·exact ⟨_,_,if_pos h0,by omega,by omega,.inl ⟨rfl,h0⟩⟩
 ·rw [if_neg h0];have er:(∃ c n,((65533:Nat),(1:Nat))=(c,n)∧1≤n∧i+n≤s.size∧(c=b.toNat∧b.toNat < 128∨128≤c∧c < 2097152)):=⟨_,_,rfl,by omega,by omega,.inr ⟨by omega,by omega⟩⟩;split
  ·rename_i h
   simp only [Bool.and_eq_true,decide_eq_true_eq] at h;split
   ·exact ⟨_,_,rfl,by omega,by omega,.inr ⟨by omega,by omega⟩⟩
   ·exact er
  ·split
   ·rename_i h
    simp only [Bool.and_eq_true,decide_eq_true_eq] at h;split
    ·rename_i h2
     simp only [Bool.and_eq_true,decide_eq_true_eq] at h2;exact ⟨_,_,rfl,by omega,by omega,.inr ⟨by omega,by omega⟩⟩
    ·exact er
   ·split
    ·rename_i h
     simp only [Bool.and_eq_true,decide_eq_true_eq] at h;split
     ·rename_i h2
      simp only [Bool.and_eq_true,decide_eq_true_eq] at h2;exact ⟨_,_,rfl,by omega,by omega,.inr ⟨by omega,by omega⟩⟩
     ·exact er
    ·exact er
theorem encode_shape (r:Int) (h:128≤r):(∃ a b:UInt8,Utf8.encode r=⟨#[a,b]⟩∧128≤b.toNat)∨3≤(Utf8.encode r).size:=by
 unfold Utf8.encode;have hc:128≤(if Utf8.valid r=true then r.toNat else Utf8.runeError):=by
  split
  ·omega
  ·decide
 generalize (if Utf8.valid r=true then r.toNat else Utf8.runeError)=c at hc;simp only;rw [if_neg (by omega)];split
 ·refine .inl ⟨_,_,rfl,?_⟩;show 128≤(UInt8.ofNat (0x80+c % 64)).toNat;rw [UInt8.toNat_ofNat_of_lt' (by show _ < 256;omega)];omega
 ·split
  ·exact .inr (Nat.le_refl 3)
  ·exact .inr (show 3≤4 by omega)
set_option maxHeartbeats 8000000 in
set_option maxRecDepth 100000 in
theorem rune_none (r:Int) (h:128≤r) (h2:r < 2097152) (w:World) :
  Calls Tryz.prog 167 #[.string ⟨#[60,62]⟩,.int .i32 r] w fun e w'=>e=.returned (.int .i64 (-1))∧Below w.heap.size w w':=by
 have hsh:=encode_shape r h;have z1:decide ((0:Int)≤r)=true:=decide_eq_true (by omega);have z2:decide (r < 128)=false:=decide_eq_false (by omega);by_cases c:r=65533
 ·subst c;clear hsh z1 z2;have n0:=fun ty=>run_next_ascii (P:=Tryz.prog) w ⟨#[60,62]⟩ 0 ty (by decide) (by decide);have n1:=fun ty=>run_next_ascii (P:=Tryz.prog) w ⟨#[60,62]⟩ 1 ty (by decide) (by decide);have n2:=fun ty=>run_next_end (P:=Tryz.prog) w ⟨#[60,62]⟩ 2 ty (by decide);have HB:=Lib.hid (fun p=>(Below.refl w.heap.size w).alloc (Nat.le_refl _) (.stringIter ⟨#[60,62]⟩ p));go_enter Tryz.func167,Tryz.ntmps167;go_wp2;go_loopg [5,6] 2 (fun g _ _ wx=>∃ i:Nat,i+g=2∧wx=w.iter ⟨#[60,62]⟩ i)
  case atStart=>exact ⟨0,by omega,rfl⟩
  case round =>
   obtain ⟨i,hig,rfl⟩:=hrel;cases gk with
   | zero =>
    obtain rfl:i=2:=by omega
    go_wp2;go_ret;exact ⟨rfl,HB.out 2⟩
   | succ g =>
    have hi:i=0∨i=1:=by omega
    rcases hi with rfl | rfl
    ·go_wp2;go_roundg g
     case measure=>omega
     case rel=>exact ⟨1,by omega,rfl⟩
    ·go_wp2;go_roundg g
     case measure=>omega
     case rel=>exact ⟨2,by omega,rfl⟩
 ·have z3:(r == 65533)=false:=by simp [c]
  cases hv:Lib.validRune r with
  | false =>
   have HV:=Lib.hid (Tryz.utf8_ValidRune r w);rw [hv] at HV;go_enter Tryz.func167,Tryz.ntmps167;go_wp2_with fail;refine HV.out.mono ?_;rintro e w1 ⟨rfl,rfl⟩;go_wp2;go_ret;exact ⟨rfl,Below.refl _ _⟩
  | true =>
   have HV:=Lib.hid (Tryz.utf8_ValidRune r w);rw [hv] at HV;have HS:=Lib.hid hsh;clear hsh;go_enter Tryz.func167,Tryz.ntmps167;go_wp2_with fail;refine HV.out.mono ?_;rintro e w1 ⟨rfl,rfl⟩;clear HV;have hcv:=fun wx=>run_convert_int_string (P:=Tryz.prog) wx 21 9 .i32 r (by rw [Tryz.underlying21];rfl) Tryz.underlying9;rcases HS.out with ⟨a,b,he,hb⟩ | h3
   ·have hne:(((((⟨#[60,62]⟩:ByteArray)[1]'(show 1 < 2 by decide)).toNat:Nat):Int) != ((((⟨#[a,b]⟩:ByteArray)[1]'(show 1 < 2 by decide)).toNat:Nat):Int))=true:=by
     show (((62:Nat):Int) != ((b.toNat:Nat):Int))=true;simp;omega
    have hx:Lib.indexByte ([]:List UInt8) b=-1:=rfl;have HI:RowKit.Hid (∀ wx:World,Calls Tryz.prog 164 #[.string ⟨#[]⟩,.int .u8 b.toNat] wx fun e w'=>e=.returned (.int .i64 (-1))∧w'=wx):=Lib.hid (fun wx=>Tryz.strings_IndexByte ⟨#[]⟩ b.toNat wx);clear HS;rw [he] at hcv;go_wp2;apply wp_scope_straight;go_wp2;go_loopw [9,10] (fun a9 a10 wr=>a9=.int .i64 1∧a10=.int .i64 0∧wr=w1) (fun _ _ _=>0)
    case atStart=>exact ⟨rfl,rfl,rfl⟩
    case round =>
     obtain ⟨rfl,rfl,rfl⟩:=hrel;go_wp2_with fail;apply wp_scope_straight;go_wp2_with fail;go_quiet (fail);go_wp2_with fail;have hw2:IntKind.i64.wrap 2=2:=by decide
     go_quiet ((refine (HI.out _).mono ?_;rintro e w' ⟨rfl,rfl⟩;exact ⟨rfl,_,rfl⟩));go_wp2;simp only [Exit.inBlock,Exit.then,Exit.noGoto];change bodyPost Tryz.prog Tryz.f167 (fun e w'=>e=.returned (.int .i64 (-1))∧Below wr.heap.size wr w') Exit.ret _ _;go_ret;exact ⟨rfl,pw_below_drewN (Below.refl _ _) _⟩
   ·have hsz:decide (wrap64 (((Utf8.encode r).size:Nat) - 1:Int) < 2)=false:=by
     have:=encode_size_le r;rw [wrap64_id (by omega) (by omega)];exact decide_eq_false (by omega)
    clear HS;go_wp2;apply wp_scope_straight;go_wp2;generalize wrap64 (((Utf8.encode r).size:Nat) - 1:Int)=la at *;go_loopw [9,10] (fun a9 a10 wr=>a9=.int .i64 la∧wr=w1) (fun _ _ _=>0)
    case atStart=>exact ⟨rfl,rfl⟩
    case round =>
     obtain ⟨rfl,rfl⟩:=hrel;go_wp2;simp only [Exit.inBlock,Exit.then,Exit.noGoto];go_ret;exact ⟨rfl,Below.refl _ _⟩
theorem run_next_str {P:Program} (wr:World) (g:Nat) (s:ByteArray) (pos:Nat) (ty:TypeId) (hb:wr.heap[g]? = some (.stringIter s pos)) (h:pos < s.size) (c n:Nat) (hd:Utf8.decode s pos=(c,n)) :
  (Instr.next (.pointer (some ⟨g,0,none⟩)) true ty).run P wr=.ok (.tuple #[.bool true,.int .i64 pos,.int .i32 c]) (setBlock wr g (.stringIter s (pos+n))):=by
 simp [Instr.next,getObj,setObj,Sem.run,hb,Result.andThen,h,hd,goInt,setBlock]
theorem run_next_str_end {P:Program} (wr:World) (g:Nat) (s:ByteArray) (pos:Nat) (ty:TypeId) (hb:wr.heap[g]? = some (.stringIter s pos)) (h:¬ pos < s.size) :
  (Instr.next (.pointer (some ⟨g,0,none⟩)) true ty).run P wr=.ok (.tuple #[.bool false]) wr:=by
 simp [Instr.next,getObj,Sem.run,hb,h]
theorem indexAny_few (s:ByteArray) (w:World) (h8:s.size≤8) (hno:∀ i (hi:i < s.size),(s[i]'hi).toNat≠60∧(s[i]'hi).toNat≠62) :
  Calls Tryz.prog 162 #[.string s,.string ⟨#[60,62]⟩] w fun e w'=>e=.returned (.int .i64 (-1))∧Below w.heap.size w w':=by
 have HN:=Lib.hid hno;have h8z:decide ((8:Int) < (s.size:Int))=false:=decide_eq_false (by omega);have HS:=Lib.hid (Tryz.strings_shouldUseASCIISet s.size w);clear hno;go_enter Tryz.func162,Tryz.ntmps162;go_wp2_with fail;refine HS.out.mono ?_;rintro e w1 ⟨rfl,rfl⟩;rw [h8z];clear HS;go_wp2;go_loopg [9,10] s.size (fun g _ _ wx=>∃ i:Nat,i+g=s.size∧Below w1.heap.size w1 wx∧wx.heap[w1.heap.size]? = some (.stringIter s i))
 case atStart=>exact ⟨0,by omega,(Below.refl _ w1).alloc (Nat.le_refl _) _,heap_alloc_new _ _⟩
 case round =>
  obtain ⟨i,hig,hB,hI⟩:=hrel;have HB:=Lib.hid hB;by_cases hi:i < s.size
  ·obtain ⟨c,n,hd,hn1,hn2,hc⟩:=decode_facts s i hi;have hnx:=fun ty=>run_next_str (P:=Tryz.prog) wr w1.heap.size s i ty hI hi c n hd;have hlt:=lt_of_block hI;have hg2:=grown_setBlock wr w1.heap.size (.stringIter s (i+n));have hI2:(setBlock wr w1.heap.size (.stringIter s (i+n))).heap[w1.heap.size]? = some (.stringIter s (i+n)):=by simp [setBlock,hlt]
   have hB2:=hB.grown hg2 hB.size (fun k hk=>by cases hk;exact Nat.le_refl _);have hnn:=HN.out i hi;have HR:RowKit.Hid (∀ wx:World,Calls Tryz.prog 167 #[.string ⟨#[60,62]⟩,.int .i32 (c:Nat)] wx fun e w'=>e=.returned (.int .i64 (-1))∧Below wx.heap.size wx w'):=Lib.hid fun wx=>by
    rcases hc with ⟨rfl,h128⟩ | ⟨h128,hup⟩
    ·have:=Tryz.strings_IndexRune_ascii ⟨#[60,62]⟩ ((s[i]'hi).toNat:Nat) wx (by omega) (by omega);refine this.mono ?_;rintro e w' ⟨rfl,rfl⟩;refine ⟨?_,Below.refl _ _⟩;rw [show (((s[i]'hi).toNat:Nat):Int).toNat.toUInt8=s[i]'hi from by simp];have e1:((60:UInt8) == s[i]'hi)=false:=by
      apply Bool.eq_false_iff.2;intro h;have:=beq_iff_eq.1 h;rw [← this] at hnn;exact hnn.1 rfl
     have e2:((62:UInt8) == s[i]'hi)=false:=by
      apply Bool.eq_false_iff.2;intro h;have:=beq_iff_eq.1 h;rw [← this] at hnn;exact hnn.2 rfl
     simp [Lib.indexByte,e1,e2]
    ·exact rune_none c (by omega) (by omega) wx
   clear hI hB hd hc hnn;generalize setBlock wr w1.heap.size (.stringIter s (i+n))=w2 at *;have HI2:=Lib.hid hI2;have HB2:=Lib.hid hB2;clear hI2 hB2 hg2;go_wp2_with fail;refine (HR.out _).mono ?_;rintro e w3 ⟨rfl,hb3⟩;have HB3:=Lib.hid (HB2.out.trans (hb3.mono HB2.out.size));have HI3:RowKit.Hid (w3.heap[w1.heap.size]? = some (.stringIter s (i+n))):=Lib.hid ((hb3.block _ (lt_of_block HI2.out)).trans HI2.out);clear hb3 hnx;go_wp2;go_roundg (gk - n)
   case measure=>omega
   case rel=>exact ⟨i+n,by omega,HB3.out,HI3.out⟩
  ·have hnx:=fun ty=>run_next_str_end (P:=Tryz.prog) wr w1.heap.size s i ty hI hi;clear hI hB;go_wp2;go_ret;exact ⟨rfl,HB.out⟩
theorem containsAny_short (s:ByteArray) (w:World) (h8:s.size≤8) (hno:∀ i (hi:i < s.size),(s[i]'hi).toNat≠60∧(s[i]'hi).toNat≠62) :
  Calls Tryz.prog 153 #[.string s,.string ⟨#[60,62]⟩] w fun e w'=>e=.returned (.bool false)∧Below w.heap.size w w':=by
 have HX:=Lib.hid (indexAny_few s w h8 hno);clear hno;go_enter Tryz.func153,Tryz.ntmps153;go_wp2_with fail;refine HX.out.mono ?_;rintro e w1 ⟨rfl,hb⟩;have HB:=Lib.hid hb;clear hb;go_wp2;refine bodyPost_ret (results_tmp rfl _ _ _) rfl ?_;exact ⟨rfl,HB.out⟩
theorem containsAny_no (s:ByteArray) (w:World) (hs:s.size < 4294967281) (hno:∀ i (hi:i < s.size),(s[i]'hi).toNat≠60∧(s[i]'hi).toNat≠62) :
  Calls Tryz.prog 153 #[.string s,.string ⟨#[60,62]⟩] w fun e w'=>e=.returned (.bool false)∧Below w.heap.size w w':=by
 by_cases h8:s.size≤8
 ·exact containsAny_short s w h8 hno
 ·refine containsAny_long s w (by omega) hs (Lib.indexAny_none ?_);intro j b hj hb;have hj':j < s.size:=by rw [Lib.size_eq];exact hj
  have e:s[j]'hj'=b:=by rw [Lib.data_getElem? s j hj'] at hb;exact Option.some.inj hb
  have:=hno j hj';rw [e] at this;apply Bool.eq_false_iff.2;intro h;simp at h;rcases h with rfl | rfl
  ·exact this.1 rfl
  ·exact this.2 rfl
theorem noAng:∀ n m:ByteArray,NameOk n→NameOk m→∀ wx:World,Calls Tryz.prog 153 #[.string (n++m),.string ⟨#[60,62]⟩] wx fun e w'=>e=.returned (.bool false)∧Below wx.heap.size wx w':=fun n m hn hm wx=>by
 have hsz:(n++m).size=n.size+m.size:=ByteArray.size_append;refine containsAny_no (n++m) wx (by have:=hn.le;have:=hm.le;omega) fun i hi=>?_;have key:∀ (s:ByteArray) (hs:NameOk s) (j:Nat) (hj:j < s.size),(s[j]'hj).toNat≠60∧(s[j]'hj).toNat≠62:=fun s hs j hj=>by
  obtain ⟨_,h1,h2⟩:=hs.all j hj;have e:btN s j=s[j]'hj:=by simp [btN,hj];rfl
  rw [e] at h1 h2;exact ⟨fun h=>h1 (UInt8.toNat_inj.1 h),fun h=>h2 (UInt8.toNat_inj.1 h)⟩
 by_cases c:i < n.size
 ·rw [ByteArray.getElem_append_left c];exact key n hn i c
 ·rw [ByteArray.getElem_append_right (by omega)];exact key m hm _ _
end Go.Proofs.YtninnmdpnoebaaaGreatDoor.Hand
end
section
namespace Go.Proofs.YtninnmdpnoebaaaGreatDoor.Hand
open Go.RowKit Go.Proofs.YtninnmdpnoebaaaGreatDoorW.PrintWords Go.Proofs.YtninnmdpnoebaaaGreatDoorW.PrintLast Go.Proofs.YtninnmdpnoebaaaGreatDoorW.PrintMore
set_option linter.unusedVariables false
set_option linter.unusedSimpArgs false
inductive UpsIs:ByteArray→List ByteArray→ByteArray→Prop
 | last (s:ByteArray):Lib.hasPrefix s.data.toList [112,97,114,101,110,116,32]=false→UpsIs s [] s
 | next (s p s':ByteArray) (l:List ByteArray) (z:ByteArray):Lib.hasPrefix s.data.toList [112,97,114,101,110,116,32]=true→idQ s 0 ⟨#[112,97,114,101,110,116,32]⟩=(p,s',0)→UpsIs s' l z→UpsIs s (p :: l) z
def WhoAt (v n m:ByteArray) (t z:Int):Prop:=∃ d zz r1 r2 zh zm,WhoIs v n m d zz r1 r2 t zh zm∧zoneQ zz zh zm=z
theorem who_at (w:World) (g:Nat) (s:ByteArray) (e q:Int) (word:ByteArray) (h:Rdr w g s e) (hs:s.size < 4294967281) (hm:w.cell? ⟨0,0,none⟩=some (.int .i64 q)) (hg0:g≠0)
  (v s':ByteArray) (e':Int) (hl:lineQ s e word=(v,s',e')) (n m:ByteArray) (t z:Int) (H:WhoAt v n m t z) :
  Calls Tryz.prog 120 #[.pointer (some ⟨g,0,none⟩),.string word] w fun o w'=>o=.returned (.agg #[.string n,.string m,.int .i64 t,.int .i64 z])∧Rdr w' g s' e'∧w.grownBy w' (some g):=by
 obtain ⟨d,zz,r1,r2,zh,zm,H,rfl⟩:=H;have:=who_any w g s e q word h hs hm hg0 n m d zz r1 r2 t zh zm (by rw [hl];exact H) (noAng n m H.who.name H.who.mail);rw [hl] at this;exact this
structure BodyIs (s tr:ByteArray) (l:List ByteArray) (an am:ByteArray) (at_ az:Int) (cn cm:ByteArray) (ct cz:Int) (x s1 s2 s3 s4 v1 v2:ByteArray):Prop where
 size:s.size < 4294967281
 tree:idQ s 0 ⟨#[116,114,101,101,32]⟩=(tr,s1,0)
 ups:UpsIs s1 l s2
 line1:lineQ s2 0 ⟨#[97,117,116,104,111,114,32]⟩=(v1,s3,0)
 who1:WhoAt v1 an am at_ az
 line2:lineQ s3 0 ⟨#[99,111,109,109,105,116,116,101,114,32]⟩=(v2,s4,0)
 who2:WhoAt v2 cn cm ct cz
 line3:lineQ s4 0 ⟨#[]⟩=(⟨#[]⟩,x,0)
 ok:CmOk tr l an am at_ az cn cm ct cz x
section
variable {w w':World} {g:Nat} {a0 a1 a2 a3 a4 a5 a6 a7 a8 a9 a10:Value} {T:TypeId}
theorem cells11 (h:w.heap[g]? = some (.cells #[a0,a1,a2,a3,a4,a5,a6,a7,a8,a9,a10] T (0,0))) :
  w.cell? ⟨g,0,none⟩=some a0∧w.cell? ⟨g,1,none⟩=some a1∧w.cell? ⟨g,2,none⟩=some a2∧w.cell? ⟨g,3,none⟩=some a3∧w.cell? ⟨g,4,none⟩=some a4∧w.cell? ⟨g,5,none⟩=some a5∧w.cell? ⟨g,6,none⟩=some a6∧w.cell? ⟨g,7,none⟩=some a7∧w.cell? ⟨g,8,none⟩=some a8∧w.cell? ⟨g,9,none⟩=some a9∧w.cell? ⟨g,10,none⟩=some a10 :=
 ⟨by rw [blk_cell h 0];rfl,by rw [blk_cell h 1];rfl,by rw [blk_cell h 2];rfl,by rw [blk_cell h 3];rfl,by rw [blk_cell h 4];rfl,by rw [blk_cell h 5];rfl,by rw [blk_cell h 6];rfl,by rw [blk_cell h 7];rfl,by rw [blk_cell h 8];rfl,by rw [blk_cell h 9];rfl,by rw [blk_cell h 10];rfl⟩
def put4 (w:World) (g i:Nat) (b0 b1 b2 b3:Value):World:=(((w.setCell ⟨g,i,none⟩ b0).setCell ⟨g,i+1,none⟩ b1).setCell ⟨g,i+2,none⟩ b2).setCell ⟨g,i+3,none⟩ b3
theorem put4_below {N:Nat} (h:Below N w w') (hg:N≤g) (i:Nat) (b0 b1 b2 b3:Value):Below N w (put4 w' g i b0 b1 b2 b3) :=
 Below.setCell (Below.setCell (Below.setCell (Below.setCell h (p:=⟨g,i,none⟩) hg b0) (p:=⟨g,i+1,none⟩) hg b1) (p:=⟨g,i+2,none⟩) hg b2) (p:=⟨g,i+3,none⟩) hg b3
theorem put4_grown (w:World) (g i:Nat) (b0 b1 b2 b3:Value):w.grownBy (put4 w g i b0 b1 b2 b3) (some g) :=
 grown_trans (grown_trans (grown_trans (grown_setCell w g i b0) (grown_setCell _ g (i+1) b1)) (grown_setCell _ g (i+2) b2)) (grown_setCell _ g (i+3) b3)
theorem put4_blk {xs:Array Value} (h:w.heap[g]? = some (.cells xs T (0,0))) (i:Nat) (b0 b1 b2 b3:Value) :
  (put4 w g i b0 b1 b2 b3).heap[g]? = some (.cells ((((xs.setIfInBounds i b0).setIfInBounds (i+1) b1).setIfInBounds (i+2) b2).setIfInBounds (i+3) b3) T (0,0)):=by
 have:=blk_set (blk_set (blk_set (blk_set h i b0) (i+1) b1) (i+2) b2) (i+3) b3;simpa [put4] using this
end
def upsLen (gc:Nat) (w:World):Nat:=match w.cell? ⟨gc,1,none⟩ with | some (.slice _ n _)=>n | _=>0
def PsRel (w:World) (gr gc:Nat) (tr s2:ByteArray) (l:List ByteArray) (wr:World):Prop :=
 ∃ (xs rest:List ByteArray) (sx:ByteArray) (A:Option Addr) (cp:Nat),xs++rest=l∧UpsIs sx rest s2∧sx.size < 4294967281∧Rdr wr gr sx 0∧wr.heap[gc]? = some (.cells #[.string tr,.slice A xs.length cp,.string ⟨#[]⟩,.string ⟨#[]⟩,.int .i64 0,.int .i64 0,.string ⟨#[]⟩,.string ⟨#[]⟩,.int .i64 0,.int .i64 0,.string ⟨#[]⟩] 57 (0,0)) ∧
  Kd.string.R 9 wr w.heap.size (fun k=>k≠gr∧k≠gc∧k≠w.heap.size) (.slice A xs.length cp) xs∧Below w.heap.size w wr∧wr.heap[w.heap.size]? = some (.cells #[.string ⟨#[]⟩,.slice none 0 0,.string ⟨#[]⟩,.string ⟨#[]⟩,.int .i64 0,.int .i64 0,.string ⟨#[]⟩,.string ⟨#[]⟩,.int .i64 0,.int .i64 0,.string ⟨#[]⟩] 57 (0,0))
theorem ps_next {w w5 w6:World} {gr gc:Nat} {tr s2 s' p:ByteArray} {l xs rest:List ByteArray} {A:Option Addr} {cp:Nat} {v1:Value} (hl:xs++p :: rest=l) (hU:UpsIs s' rest s2) (hs:s'.size < 4294967281) (hr:Rdr w5 gr s' 0)
  (hc:w5.heap[gc]? = some (.cells #[.string tr,.slice A xs.length cp,.string ⟨#[]⟩,.string ⟨#[]⟩,.int .i64 0,.int .i64 0,.string ⟨#[]⟩,.string ⟨#[]⟩,.int .i64 0,.int .i64 0,.string ⟨#[]⟩] 57 (0,0))) (hR5:Kd.string.R 9 w5 w.heap.size (fun k=>k≠gr∧k≠gc∧k≠w.heap.size) (.slice A xs.length cp) xs)
  (hN:w5.heap[w.heap.size]? = some (.cells #[.string ⟨#[]⟩,.slice none 0 0,.string ⟨#[]⟩,.string ⟨#[]⟩,.int .i64 0,.int .i64 0,.string ⟨#[]⟩,.string ⟨#[]⟩,.int .i64 0,.int .i64 0,.string ⟨#[]⟩] 57 (0,0))) (hd1:gr≠gc) (hd2:w.heap.size≠gc) (hNg:w.heap.size≤gc)
  (hR6:Kd.string.R 9 w6 w.heap.size (fun k=>k≠gr∧k≠gc∧k≠w.heap.size) v1 (xs++[p])) (hB6:Below w.heap.size w w6) (hg6:w5.grownBy w6 (Value.slice A xs.length cp).ownBlock) :
  PsRel w gr gc tr s2 l (w6.setCell ⟨gc,1,none⟩ v1)∧upsLen gc (w6.setCell ⟨gc,1,none⟩ v1)=xs.length+1:=by
 obtain ⟨A1,cp1,rfl⟩:=Kd.R_slice hR6;have n1:some gr≠(Value.slice A xs.length cp).ownBlock:=fun e=>(hR5.1 gr e.symm).1 rfl;have n2:some gc≠(Value.slice A xs.length cp).ownBlock:=fun e=>(hR5.1 gc e.symm).2.1 rfl;have n3:some w.heap.size≠(Value.slice A xs.length cp).ownBlock:=fun e=>(hR5.1 _ e.symm).2.2 rfl;have b1:=(hg6.block gr (lt_of_block hr) n1).trans hr;have b2:=(hg6.block gc (lt_of_block hc) n2).trans hc;have b3:=(hg6.block _ (lt_of_block hN) n3).trans hN;have bs:=blk_set b2 1 (.slice A1 (xs++[p]).length cp1);refine ⟨⟨xs++[p],rest,s',A1,cp1,by rw [← hl];simp,hU,hs,(Below.heap_setCell _ ⟨gc,1,none⟩ _ gr hd1).trans b1,by simpa using bs,Kd.R_far hR6 (p:=⟨gc,1,none⟩) (fun k hk=>hk.2.1) _,hB6.setCell (p:=⟨gc,1,none⟩) hNg _,(Below.heap_setCell _ ⟨gc,1,none⟩ _ _ hd2).trans b3⟩,?_⟩;unfold upsLen;rw [blk_cell bs 1];simp
set_option maxHeartbeats 8000000 in
set_option maxRecDepth 100000 in
theorem parse_any (s tr:ByteArray) (l:List ByteArray) (an am:ByteArray) (at_ az:Int) (cn cm:ByteArray) (ct cz:Int) (x s1 s2 s3 s4 v1 v2:ByteArray) (H:BodyIs s tr l an am at_ az cn cm ct cz x s1 s2 s3 s4 v1 v2) (w:World) (q:Int) (hm:w.cell? ⟨0,0,none⟩=some (.int .i64 q)) :
  Calls Tryz.prog 91 #[.string s] w fun e w'=>∃ A c,e=.returned (.tuple #[.agg #[.string tr,.slice A l.length c,.string an,.string am,.int .i64 at_,.int .i64 az,.string cn,.string cm,.int .i64 ct,.int .i64 cz,.string x],.int .i64 0])∧Kd.string.R 9 w' w.heap.size (fun _=>True) (.slice A l.length c) l∧Below w.heap.size w w':=by
 have h0N:0 < w.heap.size:=World.block_lt_of_cell? w _ hm;generalize hw2:(w.alloc (.cells #[.string ⟨#[]⟩,.slice none 0 0,.string ⟨#[]⟩,.string ⟨#[]⟩,.int .i64 0,.int .i64 0,.string ⟨#[]⟩,.string ⟨#[]⟩,.int .i64 0,.int .i64 0,.string ⟨#[]⟩] 57)).alloc (.cells #[.string s,.int .i64 0] 180)=w2;have hz1:(w.alloc (.cells #[.string ⟨#[]⟩,.slice none 0 0,.string ⟨#[]⟩,.string ⟨#[]⟩,.int .i64 0,.int .i64 0,.string ⟨#[]⟩,.string ⟨#[]⟩,.int .i64 0,.int .i64 0,.string ⟨#[]⟩] 57)).heap.size=w.heap.size+1:=Array.size_push _;have hb2:Below w.heap.size w w2:=by rw [← hw2];exact ((Below.refl _ w).alloc (Nat.le_refl _) _).alloc (by omega) _
 have k0:w2.heap[w.heap.size]? = some (.cells #[.string ⟨#[]⟩,.slice none 0 0,.string ⟨#[]⟩,.string ⟨#[]⟩,.int .i64 0,.int .i64 0,.string ⟨#[]⟩,.string ⟨#[]⟩,.int .i64 0,.int .i64 0,.string ⟨#[]⟩] 57 (0,0)):=by rw [← hw2,heap_alloc_old _ _ (by omega)];exact heap_alloc_new _ _
 have r0:Rdr w2 (w.heap.size+1) s 0:=by rw [← hw2,← hz1];exact heap_alloc_new _ _
 have hm2:w2.cell? ⟨0,0,none⟩=some (.int .i64 q):=(hb2.cell h0N).trans hm;have HX:=Lib.hid (id_any w2 (w.heap.size+1) s 0 q ⟨#[116,114,101,101,32]⟩ r0 H.size hm2);have HB2:=Lib.hid hb2;have HK2:=Lib.hid k0;have HW2:=Lib.hid hw2;have HM:=Lib.hid hm;have HH:=Lib.hid H;have hsz1:s1.size < 4294967281:=by
  have h1:=(line_size s 0 ⟨#[116,114,101,101,32]⟩).2;have h2:(idQ s 0 ⟨#[116,114,101,101,32]⟩).2.1=s1:=by rw [H.tree]
  have h3:=H.size;simp only [idQ] at h2;rw [h2] at h1;omega
 rw [H.tree] at HX;clear hw2 hb2 k0 r0 hm2 hm H;go_enter Tryz.func91,Tryz.ntmps91;go_upto_region 2 with (fail);rw [HW2.out];go_wp2_with fail;refine HX.out.mono ?_;rintro o w3 ⟨rfl,hr3,hg3⟩;have hlt2:=lt_of_block HK2.out;have k3:=(hg3.block w.heap.size hlt2 (by intro e;injection e with e;omega)).trans HK2.out;have HB3:RowKit.Hid (Below w.heap.size w w3):=Lib.hid (HB2.out.grown hg3 (by have:=hg3.size;omega) (fun k hk=>by cases hk;omega));have HK3:=Lib.hid k3;have HR3:RowKit.Hid (Rdr w3 (w.heap.size+1) s1 0):=Lib.hid hr3;have hz3:w.heap.size+1 < w3.heap.size:=lt_of_block hr3;clear hr3 hg3 k3 HX HW2 HB2 HK2;go_upto_region 3 with (fail);have hb4:Below w3.heap.size w3 (w3.alloc (.cells #[.string tr,.slice none 0 0,.string ⟨#[]⟩,.string ⟨#[]⟩,.int .i64 0,.int .i64 0,.string ⟨#[]⟩,.string ⟨#[]⟩,.int .i64 0,.int .i64 0,.string ⟨#[]⟩] 57)):=(Below.refl _ w3).alloc (Nat.le_refl _) _;have HREL:RowKit.Hid (PsRel w (w.heap.size+1) w3.heap.size tr s2 l (w3.alloc (.cells #[.string tr,.slice none 0 0,.string ⟨#[]⟩,.string ⟨#[]⟩,.int .i64 0,.int .i64 0,.string ⟨#[]⟩,.string ⟨#[]⟩,.int .i64 0,.int .i64 0,.string ⟨#[]⟩] 57))):=Lib.hid ⟨[],l,s1,none,0,rfl,HH.out.ups,hsz1,(hb4.block _ hz3).trans HR3.out,heap_alloc_new _ _,Kd.R_nil _ _ _ _ _,HB3.out.trans (hb4.mono HB3.out.size),(hb4.block _ (lt_of_block HK3.out)).trans HK3.out⟩;clear hb4 HB3 HK3 HR3;generalize w3.heap.size=gc at *;generalize w3.alloc (.cells #[.string tr,.slice none 0 0,.string ⟨#[]⟩,.string ⟨#[]⟩,.int .i64 0,.int .i64 0,.string ⟨#[]⟩,.string ⟨#[]⟩,.int .i64 0,.int .i64 0,.string ⟨#[]⟩] 57)=w4 at *;go_loopw [] (fun wr=>PsRel w (w.heap.size+1) gc tr s2 l wr) (fun wr=>l.length - upsLen gc wr)
 case atStart=>exact HREL.out
 case round =>
  obtain ⟨xs,rest,sx,A,cp,hl,hU,hsx,hr,hc,hR,hB,hN⟩:=hrel;clear HREL;have c0:=hr.c0;have c1:=hr.c1;have HP:=Lib.hid (Tryz.strings_HasPrefix sx ⟨#[112,97,114,101,110,116,32]⟩ wr);have hgr:=lt_of_block hr;have hgc2:=lt_of_block hc;have hmq:wr.cell? ⟨0,0,none⟩=some (.int .i64 q):=(hB.cell h0N).trans HM.out;cases hU with
  | last _ hp =>
   rw [List.append_nil] at hl;subst hl;rw [hp] at HP;have HR:=Lib.hid hr;have HC:=Lib.hid hc;have HRR:=Lib.hid hR;have HB:=Lib.hid hB;have HN:=Lib.hid hN;have HW1:=Lib.hid (who_at wr (w.heap.size+1) s2 0 q ⟨#[97,117,116,104,111,114,32]⟩ hr hsx hmq (by omega) v1 s3 0 HH.out.line1 an am at_ az HH.out.who1);clear hr hc hR hB hN;go_wp2_with fail;refine HP.out.mono ?_;rintro o w5 ⟨rfl,rfl⟩;clear HP c0 c1;go_wp2_with fail;refine HW1.out.mono ?_;rintro o w6 ⟨rfl,hr6,hg6⟩;have hne1:gc≠w.heap.size+1:=by omega
   have k6:=(hg6.block gc hgc2 (by intro e;injection e with e;omega)).trans HC.out;have hb6:=HB.out.grown hg6 HB.out.size (fun k hk=>by cases hk;omega);have hmq6:w6.cell? ⟨0,0,none⟩=some (.int .i64 q):=(hb6.cell h0N).trans HM.out;have hs3:s3.size < 4294967281:=by
    have h1:=(line_size s2 0 ⟨#[97,117,116,104,111,114,32]⟩).2;rw [HH.out.line1] at h1;exact Nat.lt_of_le_of_lt h1 hsx
   have hs4:s4.size < 4294967281:=by
    have h1:=(line_size s3 0 ⟨#[99,111,109,109,105,116,116,101,114,32]⟩).2;rw [HH.out.line2] at h1;exact Nat.lt_of_le_of_lt h1 hs3
   have HW2:=Lib.hid (who_at w6 (w.heap.size+1) s3 0 q ⟨#[99,111,109,109,105,116,116,101,114,32]⟩ hr6 hs3 hmq6 (by omega) v2 s4 0 HH.out.line2 cn cm ct cz HH.out.who2);have HC6:=Lib.hid k6;have HB6:=Lib.hid hb6;have HRR6:=Lib.hid (Kd.R_grown HRR.out hg6 (fun k hk e=>hk.1 (by injection e)));have HN6:=Lib.hid ((hg6.block _ (lt_of_block HN.out) (by intro e;injection e with e;omega)).trans HN.out);clear hr6 hg6 k6 hb6 hmq6 HW1 HC HB HRR HN HR;go_wp2_with fail;refine HW2.out.mono ?_;rintro o w7 ⟨rfl,hr7,hg7⟩;have k7:=(hg7.block gc (lt_of_block HC6.out) (by intro e;injection e with e;omega)).trans HC6.out;have HB7:=Lib.hid (HB6.out.grown hg7 HB6.out.size (fun k hk=>by cases hk;omega));have HRR7:=Lib.hid (Kd.R_grown HRR6.out hg7 (fun k hk e=>hk.1 (by injection e)));have HN7:=Lib.hid ((hg7.block _ (lt_of_block HN6.out) (by intro e;injection e with e;omega)).trans HN6.out);have HR7:RowKit.Hid (Rdr w7 (w.heap.size+1) s4 0):=Lib.hid hr7;obtain ⟨-,-,c2,c3,c4,c5,c6,c7,c8,c9,-⟩:=cells11 k7;have f2:=blk_frozen k7 2;have f3:=blk_frozen k7 3;have f4:=blk_frozen k7 4;have f5:=blk_frozen k7 5;have f6:=blk_frozen k7 6;have f7:=blk_frozen k7 7;have f8:=blk_frozen k7 8;have f9:=blk_frozen k7 9;have HC7:=Lib.hid k7;clear hr7 hg7 k7 HW2 HC6 HB6 HRR6 HN6;go_upto_region 6 with (fail);clear c2 c3 c4 c5 c6 c7 c8 c9 f2 f3 f4 f5 f6 f7 f8 f9;change Code.wp _ _ _ _ (put4 (put4 w7 gc 2 (.string an) (.string am) (.int .i64 at_) (.int .i64 az)) gc 6 (.string cn) (.string cm) (.int .i64 ct) (.int .i64 cz));have k8:(put4 (put4 w7 gc 2 (.string an) (.string am) (.int .i64 at_) (.int .i64 az)) gc 6 (.string cn) (.string cm) (.int .i64 ct) (.int .i64 cz)).heap[gc]? = some (.cells #[.string tr,.slice A xs.length cp,.string an,.string am,.int .i64 at_,.int .i64 az,.string cn,.string cm,.int .i64 ct,.int .i64 cz,.string ⟨#[]⟩] 57 (0,0)):=by
    have:=put4_blk (put4_blk HC7.out 2 (.string an) (.string am) (.int .i64 at_) (.int .i64 az)) 6 (.string cn) (.string cm) (.int .i64 ct) (.int .i64 cz);simpa using this
   have hg8:=grown_trans (put4_grown w7 gc 2 (.string an) (.string am) (.int .i64 at_) (.int .i64 az)) (put4_grown _ gc 6 (.string cn) (.string cm) (.int .i64 ct) (.int .i64 cz));have hb8:=put4_below (put4_below HB7.out (g:=gc) (by omega) 2 (.string an) (.string am) (.int .i64 at_) (.int .i64 az)) (g:=gc) (by omega) 6 (.string cn) (.string cm) (.int .i64 ct) (.int .i64 cz);generalize put4 (put4 w7 gc 2 (.string an) (.string am) (.int .i64 at_) (.int .i64 az)) gc 6 (.string cn) (.string cm) (.int .i64 ct) (.int .i64 cz)=w8 at *;have hr8:Rdr w8 (w.heap.size+1) s4 0:=(hg8.block _ (lt_of_block HR7.out) (by intro e;injection e with e;omega)).trans HR7.out;have HRR8:=Lib.hid (Kd.R_grown HRR7.out hg8 (fun k hk e=>hk.2.1 (by injection e)));have HN8:=Lib.hid ((hg8.block _ (lt_of_block HN7.out) (by intro e;injection e with e;omega)).trans HN7.out);have HB8:=Lib.hid hb8;have HC8:=Lib.hid k8;have hmq8:w8.cell? ⟨0,0,none⟩=some (.int .i64 q):=(hb8.cell h0N).trans HM.out;have hL:=line_any w8 (w.heap.size+1) s4 0 q ⟨#[]⟩ hr8 hs4 hmq8;rw [HH.out.line3] at hL;have HL:=Lib.hid hL;clear hL hmq8 hb8 k8 hg8 hr8 HR7 HC7 HB7 HRR7 HN7;go_wp2_with fail;refine HL.out.mono ?_;rintro o w9 ⟨rfl,hr9,hg9⟩;have k9:=(hg9.block gc (lt_of_block HC8.out) (by intro e;injection e with e;omega)).trans HC8.out;have HB9:=Lib.hid (HB8.out.grown hg9 HB8.out.size (fun k hk=>by cases hk;omega));have HRR9:=Lib.hid (Kd.R_grown HRR8.out hg9 (fun k hk e=>hk.1 (by injection e)));have HN9:=Lib.hid ((hg9.block _ (lt_of_block HN8.out) (by intro e;injection e with e;omega)).trans HN8.out);have HR9:RowKit.Hid (Rdr w9 (w.heap.size+1) x 0):=Lib.hid hr9;have c0:=HR9.out.c0;obtain ⟨-,-,-,-,-,-,-,-,-,-,c10⟩:=cells11 k9;have f10:=blk_frozen k9 10;have HC9:=Lib.hid k9;clear hr9 hg9 k9 HL HB8 HRR8 HN8 HC8;go_upto_region 9 with (fail);clear c0 c10 f10;have k10:(w9.setCell ⟨gc,10,none⟩ (.string x)).heap[gc]? = some (.cells #[.string tr,.slice A xs.length cp,.string an,.string am,.int .i64 at_,.int .i64 az,.string cn,.string cm,.int .i64 ct,.int .i64 cz,.string x] 57 (0,0)):=by
    have:=blk_set HC9.out 10 (.string x);simpa using this
   have hg10:=grown_setCell w9 gc 10 (.string x);have HB10:=Lib.hid (HB9.out.setCell (p:=⟨gc,10,none⟩) (show w.heap.size≤gc by omega) (.string x));generalize w9.setCell ⟨gc,10,none⟩ (.string x)=w10 at *;have HR10:RowKit.Hid (Rdr w10 (w.heap.size+1) x 0):=Lib.hid ((hg10.block _ (lt_of_block HR9.out) (by intro e;injection e with e;omega)).trans HR9.out);have HRR10:=Lib.hid (Kd.R_grown HRR9.out hg10 (fun k hk e=>hk.2.1 (by injection e)));have HN10:=Lib.hid ((hg10.block _ (lt_of_block HN9.out) (by intro e;injection e with e;omega)).trans HN9.out);have c1:=HR10.out.c1;obtain ⟨d0,d1,d2,d3,d4,d5,d6,d7,d8,d9,d10⟩:=cells11 k10;have HK10:=Lib.hid k10;have hCh:=check_any tr A cp xs an am at_ az cn cm ct cz x HH.out.ok w10 (Kd.R_reads' HRR10.out).2.2;have HCh:=Lib.hid hCh;clear k10 hg10 hCh HR9 HRR9 HN9 HB9 HC9;go_wp2_with fail;refine HCh.out.mono ?_;rintro o w11 ⟨rfl,hb11⟩;have hr11:Rdr w11 (w.heap.size+1) x 0:=(hb11.block _ (lt_of_block HR10.out)).trans HR10.out;have k11:=(hb11.block _ (lt_of_block HK10.out)).trans HK10.out;have HN11:=Lib.hid ((hb11.block _ (lt_of_block HN10.out)).trans HN10.out);have HRR11:=Lib.hid (Kd.R_below HRR10.out hb11);have HB11:=Lib.hid (HB10.out.trans (hb11.mono HB10.out.size));have HK11:=Lib.hid k11;have HS11:=Lib.hid (hr11.set1 0);have f1:=hr11.fr 1;have c1':=hr11.c1;have HR11:RowKit.Hid (Rdr w11 (w.heap.size+1) x 0):=Lib.hid hr11;clear d0 d1 d2 d3 d4 d5 d6 d7 d8 d9 d10 c1 HCh hb11 hr11 k11 HR10 HK10 HN10 HRR10 HB10;go_upto_region 11 with (fail);have hg12:=grown_setCell w11 (w.heap.size+1) 1 (.int .i64 0);have HR12:RowKit.Hid (Rdr (w11.setCell ⟨w.heap.size+1,1,none⟩ (.int .i64 0)) (w.heap.size+1) x 0):=HS11;have HB12:=Lib.hid (HB11.out.setCell (p:=⟨w.heap.size+1,1,none⟩) (show w.heap.size≤w.heap.size+1 by omega) (.int .i64 0));clear c1' f1 HS11;generalize w11.setCell ⟨w.heap.size+1,1,none⟩ (.int .i64 0)=w12 at *;have k12:=(hg12.block _ (lt_of_block HK11.out) (by intro e;injection e with e;omega)).trans HK11.out;have HN12:=Lib.hid ((hg12.block _ (lt_of_block HN11.out) (by intro e;injection e with e;omega)).trans HN11.out);have HRR12:=Lib.hid (Kd.R_grown HRR11.out hg12 (fun k hk e=>hk.1 (by injection e)));have c1:=HR12.out.c1;obtain ⟨d0,d1,d2,d3,d4,d5,d6,d7,d8,d9,d10⟩:=cells11 k12;have HRES:=Lib.hid (setRow_heap w12 w.heap.size _ #[.string tr,.slice A xs.length cp,.string an,.string am,.int .i64 at_,.int .i64 az,.string cn,.string cm,.int .i64 ct,.int .i64 cz,.string x] 57 (0,0) HN12.out);have HBF:=Lib.hid (below_setRow HB12.out (Nat.le_refl _) #[.string tr,.slice A xs.length cp,.string an,.string am,.int .i64 at_,.int .i64 az,.string cn,.string cm,.int .i64 ct,.int .i64 cz,.string x]);have HRF:=Lib.hid (Kd.R_step HRR12.out (w1:=w12.setRow w.heap.size #[.string tr,.slice A xs.length cp,.string an,.string am,.int .i64 at_,.int .i64 az,.string cn,.string cm,.int .i64 ct,.int .i64 cz,.string x]) (fun k hk hlt=>setRow_other w12 w.heap.size k _ hk.2.2));clear k12 hg12 HK11 HN11 HRR11 HB11 HR11;have hAll:(#[.string tr,.slice A xs.length cp,.string an,.string am,.int .i64 at_,.int .i64 az,.string cn,.string cm,.int .i64 ct,.int .i64 cz,.string x]:Array Value).all (·.oneCell')=true:=by kernel_rfl
   have hInf:(Tryz.prog.info? 57).map (·.size)=some (#[.string tr,.slice A xs.length cp,.string an,.string am,.int .i64 at_,.int .i64 az,.string cn,.string cm,.int .i64 ct,.int .i64 cz,.string x]:Array Value).size:=by kernel_rfl
   go_upto_region 13 with (fail);go_wp2_with (refine wpList_store_row rfl 57 (.tmp 2) (.tmp 67) rfl w.heap.size #[.string tr,.slice A xs.length cp,.string an,.string am,.int .i64 at_,.int .i64 az,.string cn,.string cm,.int .i64 ct,.int .i64 cz,.string x] rfl rfl 57 _ HN12.out hInf rfl hAll ?_);refine bodyPost_ret (results_ch rfl _ _ w.heap.size 57 _ (0,0) _ rfl HRES.out Tryz.underlying57 rfl (by kernel_rfl)) rfl ?_;exact ⟨A,cp,rfl,Kd.R_mono HRF.out (fun _ _=>trivial),HBF.out⟩
  | next _ p s' rest _ hp hid hU' =>
   rw [hp] at HP;have hs':s'.size < 4294967281:=by
    have h1:=(line_size sx 0 ⟨#[112,97,114,101,110,116,32]⟩).2;have h2:(idQ sx 0 ⟨#[112,97,114,101,110,116,32]⟩).2.1=s':=by rw [hid]
    simp only [idQ] at h2;rw [h2] at h1;omega
   have HX:=Lib.hid (id_any wr.drew (w.heap.size+1) sx 0 q ⟨#[112,97,114,101,110,116,32]⟩ (show Rdr wr.drew _ _ _ from hr) hsx hmq);rw [hid] at HX;have hcw:wr.drew.cell? ⟨gc,1,none⟩=some (.slice A xs.length cp):=by
    show wr.cell? ⟨gc,1,none⟩=_;rw [blk_cell hc 1];rfl
   have hR1:Kd.string.R 9 wr.drew w.heap.size (fun k=>k≠w.heap.size+1∧k≠gc∧k≠w.heap.size) (.slice A xs.length cp) xs:=Kd.R_drew hR;have hB1:Below w.heap.size w wr.drew:=below_drew1 hB;have hc1:wr.drew.heap[gc]? = some (.cells #[.string tr,.slice A xs.length cp,.string ⟨#[]⟩,.string ⟨#[]⟩,.int .i64 0,.int .i64 0,.string ⟨#[]⟩,.string ⟨#[]⟩,.int .i64 0,.int .i64 0,.string ⟨#[]⟩] 57 (0,0)):=hc;have hN1:wr.drew.heap[w.heap.size]? = some (.cells #[.string ⟨#[]⟩,.slice none 0 0,.string ⟨#[]⟩,.string ⟨#[]⟩,.int .i64 0,.int .i64 0,.string ⟨#[]⟩,.string ⟨#[]⟩,.int .i64 0,.int .i64 0,.string ⟨#[]⟩] 57 (0,0)):=hN;have hlen:(xs.length+1)*16≤140737488355328:=by
    have h1:=HH.out.ok.few;have h2:l.length=xs.length+(p :: rest).length:=by rw [← hl];simp
    have h3:(p :: rest).length=rest.length+1:=rfl;omega
   have HRW:=Lib.hid hR1;have HBW:=Lib.hid hB1;have HCW:=Lib.hid hc1;have HNW:=Lib.hid hN1;have hne1:gc≠w.heap.size+1:=by omega
   have HUP:RowKit.Hid (upsLen gc wr=xs.length):=Lib.hid (by unfold upsLen;rw [(cells11 hc).2.1])
   have HXC:RowKit.Hid (Calls Tryz.prog 118 #[.pointer (some ⟨w.heap.size+1,0,none⟩),.string ⟨#[112,97,114,101,110,116,32]⟩] wr.drew fun o w'=>o=.returned (.string p)∧Rdr w' (w.heap.size+1) s' 0∧w'.heap[gc]? = some (.cells #[.string tr,.slice A xs.length cp,.string ⟨#[]⟩,.string ⟨#[]⟩,.int .i64 0,.int .i64 0,.string ⟨#[]⟩,.string ⟨#[]⟩,.int .i64 0,.int .i64 0,.string ⟨#[]⟩] 57 (0,0))∧w'.cell? ⟨gc,1,none⟩=some (.slice A xs.length cp)∧gc < w'.heap.size ∧
     Kd.string.R 9 w' w.heap.size (fun k=>k≠w.heap.size+1∧k≠gc∧k≠w.heap.size) (.slice A xs.length cp) xs∧Below w.heap.size w w'∧w'.heap[w.heap.size]? = some (.cells #[.string ⟨#[]⟩,.slice none 0 0,.string ⟨#[]⟩,.string ⟨#[]⟩,.int .i64 0,.int .i64 0,.string ⟨#[]⟩,.string ⟨#[]⟩,.int .i64 0,.int .i64 0,.string ⟨#[]⟩] 57 (0,0))∧w.heap.size≤w'.heap.size):=Lib.hid (HX.out.mono (by
    rintro o w5 ⟨rfl,hr5,hg5⟩;have k5:=(hg5.block gc hgc2 (by intro e;injection e with e;omega)).trans HCW.out;have hb5:=HBW.out.grown hg5 HBW.out.size (fun k hk=>by cases hk;omega)
    exact ⟨rfl,hr5,k5,by rw [blk_cell k5 1];rfl,lt_of_block k5,Kd.R_grown HRW.out hg5 (fun k hk e=>hk.1 (by injection e)),hb5,(hg5.block _ (lt_of_block HNW.out) (by intro e;injection e with e;omega)).trans HNW.out,hb5.size⟩))
   clear hc hR hB hN hR1 hB1 hc1 hN1 hr HX;go_wp2_with fail;refine HP.out.mono ?_;rintro o w5 ⟨rfl,rfl⟩;clear HP;go_upto_region 4 with (fail);clear c0 c1
   go_region_law (first
    | ((try go_simp);go_at_call 118;refine HXC.out.mono ?_;rintro o w6 ⟨rfl,hr6,k6,hcx,hgc6,hR6,hB6,hN6,hz6⟩)
    | (refine Kd.R_append_step Kd.string (w0:=w) w.heap.size rfl _ _ 27 9 (.string ⟨#[]⟩) 16 rfl Tryz.underlying27 infoStr rfl (by decide) (by decide) (.slice A xs.length cp) xs p [.string p] (fun k=>k≠w.heap.size+1∧k≠gc∧k≠w.heap.size) (fun _=>False) rfl (by simp [go_sem]) rfl (fun _ h=>h.elim) (fun k hk=>⟨by have:=lt_of_block hr6;omega,by omega,by have:=lt_of_block hN6;omega⟩) hR6 hB6 hz6 hlen ?_;intro v1 w7 hR7 hB7 hg7 hat7;have k7:=(hg7.block gc hgc6 (fun e=>(hR6.1 gc e.symm).2.1 rfl)).trans k6;have c7:w7.cell? ⟨gc,1,none⟩=some (.slice A xs.length cp):=(cells11 k7).2.1;have f7:=blk_frozen k7 1;obtain ⟨A1,cp1,hv1e⟩:=Kd.R_slice hR7;subst hv1e))
   all_goals
    obtain ⟨hrel,hmz⟩:=ps_next (w:=w) (gr:=w.heap.size+1) (l:=l) hl hU' hs' hr6 k6 hR6 hN6 hne1.symm (by omega) (by omega) hR7 hB7 hg7;rw [List.length_append,List.length_singleton] at hrel hmz;go_wp2;refine ⟨hrel,?_⟩;have hup:upsLen gc w5=xs.length:=HUP.out;rw [hmz,hup];have h2:l.length=xs.length+(p :: rest).length:=by rw [← hl];simp
    have h3:(p :: rest).length=rest.length+1:=rfl;omega
end Go.Proofs.YtninnmdpnoebaaaGreatDoor.Hand
end
section
namespace Go.Proofs.YtninnmdpnoebaaaGreatDoor.PRa
open Go.Proofs.YtninnmdpnoebaaaGreatDoor.Sq Go.Proofs.YtninnmdpnoebaaaGreatDoor.Hand Go.RowKit Go.Proofs.YtninnmdpnoebaaaGreatDoorW.PrintWords Go.Proofs.YtninnmdpnoebaaaGreatDoorW.PrintLast Go.Proofs.YtninnmdpnoebaaaGreatDoorW.PrintMore
attribute [local go_sem] max2_int min2_int max_two min_two max_three min_three max_four min_four
set_option linter.unusedVariables false
set_option linter.unusedSimpArgs false
def g17Place.l0:Nat→List (S75)→ByteArray→Int→Int→Option (Int × Bool)
 | 0,_,_,_,_=>none
 | k+1,c,d,a,b=>if a < b then (if 0≤(wrap64 (Int.tdiv (wrap64 (a+b)) 2)) then (if (wrap64 (Int.tdiv (wrap64 (a+b)) 2)) < (c.length:Int) then (if (Op.bytesLess (((rd_T75 c (wrap64 (Int.tdiv (wrap64 (a+b)) 2))).f0).toList) d.toList)=true then (g17Place.l0 k c d (wrap64 ((wrap64 (Int.tdiv (wrap64 (a+b)) 2))+1)) b) else (g17Place.l0 k c d a (wrap64 (Int.tdiv (wrap64 (a+b)) 2)))) else (none)) else (none)) else (if a < (c.length:Int) then (if 0≤a then (some (a,(((rd_T75 c a).f0).toList == d.toList))) else (none)) else (some (a,false)))
def g17Place.f (k:Nat) (a:List (S75)) (b:ByteArray):Option (Int × Bool):=g17Place.l0 k a b 0 (a.length:Int)
theorem g17Place.mono_l:∀ k,(∀ a b c d,LeO (g17Place.l0 k a b c d) (g17Place.l0 (k+1) a b c d))
 | 0=>zM0
 | k+1=>by
  have e:=g17Place.mono_l k
  ·intros;unfold g17Place.l0;exact zMo
theorem g17Place.mono:∀ a b k,LeO (g17Place.f k a b) (g17Place.f (k+1) a b):=by
 intro a b k;have c:=g17Place.mono_l k;unfold g17Place.f;exact zMo
set_option maxHeartbeats 8000000 in
set_option maxRecDepth 100000 in
theorem g17Place.calls (k:Nat) (M:Option Addr) (N:Nat) (c:List (S75)) (j:ByteArray) (u:Int) (v:Bool) (w:World) (A:Kd.C k75 w M c.length c) (B:c.length≤N) (h:g17Place.f k c j=some (u,v)) :
  Calls Tryz.prog 36 #[.slice M c.length N,.string j] w fun e w'=>e=.returned (.tuple #[.int .i64 u,.bool v])∧Drawn0 w w':=by
 have x:=Aside0.mk A;have X:=Aside0.mk B;clear A B;have H:(g17Place.l0 k c j 0 (c.length:Int))=some (u,v):=h;clear h;have H':=Aside0.mk H;clear H;go_enter Tryz.func36,Tryz.ntmps36;go_wp2;go_loopg [6,7] k (fun kq R T w'=>∃ (b:Int) (d:Int),R=.int .i64 b∧T=.int .i64 d∧Aside0 (g17Place.l0 kq c j b d=some (u,v))∧Aside0 (kq≤k)∧Drawn0 w w')
 case atStart=>exact ⟨(0),((c.length:Int)),zE,zE,H',⟨Nat.le_refl _⟩,zDr⟩
 case round =>
  clear H';obtain ⟨b,d,rfl,rfl,HA,p,⟨Z,rfl⟩⟩:=hrel;cases gk with
  | zero=>exact absurd HA.out (by simp [g17Place.l0])
  | succ k1 =>
   have H:=HA.out;clear HA;simp only [g17Place.l0] at H;replace H:=zdd H;rcases H with ⟨D,H⟩ | ⟨D,H⟩
   ·obtain ⟨a,l⟩:=zj (α:=Int) (wrap64 (Int.tdiv (wrap64 (b+d)) 2));replace H:(if 0≤(a) then (if (a) < (c.length:Int) then (if (Op.bytesLess (((rd_T75 c (a)).f0).toList) j.toList)=true then (g17Place.l0 k1 c j (wrap64 ((a)+1)) d) else (g17Place.l0 k1 c j b a)) else (none)) else (none))=some (u,v):=zJ l H;have O:(IntKind.i64.wrap (Int.tdiv (wrap64 (b+d)) 2))=a:=(i64_w _).trans l;replace H:=zdn H;obtain ⟨U,H⟩:=H;replace H:=zdn H;obtain ⟨V,H⟩:=H;replace H:=zif H;rcases H with ⟨y,H⟩ | ⟨y,H⟩
    ·have E:(Op.bytesLess (((rd_T75 c (a)).f0).toList) j.toList)=true:=y;clear y;have H':=Aside0.mk H;clear H;have g:0≤((a):Int):=zD;have i:(a) < (c.length:Int):=zD;obtain ⟨z,m,q,r,s⟩:=at_T75 x.out (a) g i;cases m;replace g:=eq_true g;replace i:=eq_true i;go_wp2;go_roundg k1
     case measure=>have:=p.out;omega
     case rel=>exact ⟨(wrap64 ((a)+1)),(d),(by first | rfl | (simp;done) | (simp only [← l]<;>(first | rfl | simp)) | (simp [*];done)),zE,H',⟨by have:=p.out;omega⟩,zDr⟩
    ·have E:(Op.bytesLess (((rd_T75 c (a)).f0).toList) j.toList)=false:=by simpa using y
     clear y;have H':=Aside0.mk H;clear H;have g:0≤((a):Int):=zD;have i:(a) < (c.length:Int):=zD;obtain ⟨z,m,q,r,s⟩:=at_T75 x.out (a) g i;cases m;replace g:=eq_true g;replace i:=eq_true i;go_wp2;go_roundg k1
     case measure=>have:=p.out;omega
     case rel=>exact ⟨(b),(a),zE,(by first | rfl | (simp;done) | (simp only [← l]<;>(first | rfl | simp)) | (simp [*];done)),H',⟨by have:=p.out;omega⟩,zDr⟩
   ·by_cases t:b < (c.length:Int)
    ·rw [if_pos t] at H;have F:=decide_eq_true t;clear t;replace H:=zdn H;obtain ⟨W,H⟩:=H;simp only [Option.some.injEq,Prod.mk.injEq] at H;obtain ⟨rfl,rfl⟩:=H;have n:0≤(b:Int):=zD;have o:b < (c.length:Int):=zD;obtain ⟨Q,G,I,J,L⟩:=at_T75 x.out b n o;cases G;replace n:=eq_true n;replace o:=eq_true o;go_wp2;(repeat (go_quiet (fail);try go_wp2));go_ret2;exact ⟨zE,zDr⟩
    ·rw [if_neg t] at H;have F:=decide_eq_false t;clear t;simp only [Option.some.injEq,Prod.mk.injEq] at H;obtain ⟨rfl,rfl⟩:=H;go_wp2;(repeat (go_quiet (fail);try go_wp2));go_ret2;exact ⟨zE,zDr⟩
def g06Has.l0:Nat→List ByteArray→ByteArray→Int→Option (Bool)
 | 0,_,_,_=>none
 | k+1,b,c,a=>if a < (b.length:Int) then (if 0≤a then (if (rdOf ByteArray.empty b a).toList=c.toList then (some true) else (g06Has.l0 k b c (wrap64 (a+1)))) else (none)) else (some false)
def g06Has.f (k:Nat) (a:List ByteArray) (b:ByteArray):Option (Bool):=g06Has.l0 k a b 0
set_option maxHeartbeats 8000000 in
set_option maxRecDepth 100000 in
theorem g06Has.calls (k:Nat) (v:Option Addr) (x:Nat) (d:List ByteArray) (j:ByteArray) (r:Bool) (w:World) (n:Kd.C Kd.string w v d.length d) (o:d.length≤x) (h:g06Has.f k d j=some r) :
  Calls Tryz.prog 94 #[.slice v d.length x,.string j] w fun e w'=>e=.returned (.bool r)∧Drawn0 w w':=by
 have p:=Aside0.mk n;have A:=Aside0.mk o;clear n o;have H:(g06Has.l0 k d j 0)=some r:=h;clear h;have H':=Aside0.mk H;clear H;go_enter Tryz.func94,Tryz.ntmps94;go_wp2;go_loopg [5] k (fun kq y w'=>∃ (a:Int),y=.int .i64 a∧Aside0 (g06Has.l0 kq d j a=some r)∧Aside0 (kq≤k)∧Drawn0 w w')
 case atStart=>exact ⟨(0),zE,H',⟨Nat.le_refl _⟩,zDr⟩
 case round =>
  clear H';obtain ⟨a,rfl,HA,q,⟨D,rfl⟩⟩:=hrel;cases gk with
  | zero=>exact absurd HA.out (by simp [g06Has.l0])
  | succ k1 =>
   have H:=HA.out;clear HA;simp only [g06Has.l0] at H;replace H:=zdd H;rcases H with ⟨s,H⟩ | ⟨s,H⟩
   ·by_cases l:0≤a
    ·rw [if_pos l] at H;have z:=decide_eq_true l;clear l;replace H:=zbb H;rcases H with ⟨t,u,H⟩ | ⟨E,t,u,H⟩
     ·obtain rfl:=Option.some.inj H;have b:0≤(a:Int):=zD;have c:a < (d.length:Int):=zD;obtain ⟨m,g,i⟩:=Kd.at_string p.out a b c;cases g;replace b:=eq_true b;replace c:=eq_true c;go_wp2;go_ret;exact ⟨zE,zDr⟩
     ·have H':=Aside0.mk H;clear H;have b:0≤(a:Int):=zD;have c:a < (d.length:Int):=zD;obtain ⟨m,g,i⟩:=Kd.at_string p.out a b c;cases g;replace b:=eq_true b;replace c:=eq_true c;go_wp2;go_roundg k1
      case measure=>have:=q.out;omega
      case rel=>exact ⟨(wrap64 (a+1)),zE,H',⟨by have:=q.out;omega⟩,zDr⟩
    ·rw [if_neg l] at H;exact absurd H (by simp)
   ·obtain rfl:=Option.some.inj H;go_wp2;go_ret;exact ⟨zE,zDr⟩
end Go.Proofs.YtninnmdpnoebaaaGreatDoor.PRa
end
section
namespace Go.Proofs.YtninnmdpnoebaaaGreatDoor.PRa
open Go.Proofs.YtninnmdpnoebaaaGreatDoor.Sq Go.Proofs.YtninnmdpnoebaaaGreatDoor.Hand Go.RowKit Go.Proofs.YtninnmdpnoebaaaGreatDoorW.PrintWords Go.Proofs.YtninnmdpnoebaaaGreatDoorW.PrintLast Go.Proofs.YtninnmdpnoebaaaGreatDoorW.PrintMore
attribute [local go_sem] max2_int min2_int max_two min_two max_three min_three max_four min_four
set_option linter.unusedVariables false
set_option linter.unusedSimpArgs false
def g17In.l0:Nat→List ByteArray→ByteArray→Int→Option (Bool)
 | 0,_,_,_=>none
 | k+1,d,e,a=>if a < (d.length:Int) then (if 0≤a then (if (rdOf ByteArray.empty d a).toList=e.toList then (some true) else (g17In.l0 k d e (wrap64 (a+1)))) else (none)) else (some false)
def g17In.f (k:Nat) (a:List ByteArray) (d:ByteArray):Option (Bool):=g17In.l0 k a d 0
set_option maxHeartbeats 8000000 in
set_option maxRecDepth 100000 in
theorem g17In.calls (k:Nat) (D:Option Addr) (E:Nat) (j:List ByteArray) (q:ByteArray) (r:Bool) (w:World) (u:Kd.C Kd.string w D j.length j) (v:j.length≤E) (h:g17In.f k j q=some r) :
  Calls Tryz.prog 28 #[.slice D j.length E,.string q] w fun e w'=>e=.returned (.bool r)∧Drawn0 w w':=by
 have x:=Aside0.mk u;have I:=Aside0.mk v;clear u v;have H:(g17In.l0 k j q 0)=some r:=h;clear h;have H':=Aside0.mk H;clear H;go_enter Tryz.func28,Tryz.ntmps28;go_wp2;go_loopg [5] k (fun kq F w'=>∃ (a:Int),F=.int .i64 a∧Aside0 (g17In.l0 kq j q a=some r)∧Aside0 (kq≤k)∧Drawn0 w w')
 case atStart=>exact ⟨(0),zE,H',⟨Nat.le_refl _⟩,zDr⟩
 case round =>
  clear H';obtain ⟨a,rfl,HA,y,⟨O,rfl⟩⟩:=hrel;cases gk with
  | zero=>exact absurd HA.out (by simp [g17In.l0])
  | succ k1 =>
   have H:=HA.out;clear HA;simp only [g17In.l0] at H;replace H:=zdd H;rcases H with ⟨z,H⟩ | ⟨z,H⟩
   ·by_cases s:0≤a
    ·rw [if_pos s] at H;have G:=decide_eq_true s;clear s;replace H:=zbb H;rcases H with ⟨A,B,H⟩ | ⟨Q,A,B,H⟩
     ·obtain rfl:=Option.some.inj H;have d:0≤(a:Int):=zD;have g:a < (j.length:Int):=zD;obtain ⟨t,l,o⟩:=Kd.at_string x.out a d g;cases l;replace d:=eq_true d;replace g:=eq_true g;go_wp2;go_ret;exact ⟨zE,zDr⟩
     ·have H':=Aside0.mk H;clear H;have d:0≤(a:Int):=zD;have g:a < (j.length:Int):=zD;obtain ⟨t,l,o⟩:=Kd.at_string x.out a d g;cases l;replace d:=eq_true d;replace g:=eq_true g;go_wp2;go_roundg k1
      case measure=>have:=y.out;omega
      case rel=>exact ⟨(wrap64 (a+1)),zE,H',⟨by have:=y.out;omega⟩,zDr⟩
    ·rw [if_neg s] at H;exact absurd H (by simp)
   ·obtain rfl:=Option.some.inj H;go_wp2;go_ret;exact ⟨zE,zDr⟩
def g17Get.f (k:Nat) (d:List (S75)) (e:ByteArray):Option (Int × ByteArray × Int):=(g17Place.f k d e).bind fun a=>(if a.2=true then (if 0≤a.1 then (if a.1 < (d.length:Int) then (some ((rd_T75 d a.1).f1,(rd_T75 d a.1).f2,0)) else (none)) else (none)) else (some (0,(⟨#[]⟩:ByteArray),5)))
def g17Get.T4:Bool × List (List Nat × List Nat):=(true,[([],[]),([0],[0]),([],[]),([1,2],[1,2]),([3],[3]),([4],[4]),([],[]),([6],[6]),([],[]),([7,8],[7,8]),([9],[9]),([10],[10]),([5,11],[5,11]),([12,0,1,2,3,4,5,6,7,8,9,10,11,12],[12]),([13,0,1,2,3,4,5,6,7,8,9,10,11,12,13],[])])
def g17Get.B4:List Nat:=[0,1,0,7,15,31,0,64,0,448,960,1984,4095,8191,16383]
theorem g17Get.tab4:rtab .any (opsOf Tryz.f69 4)=g17Get.T4:=by kernel_rfl
theorem g17Get.bits4:waitsOk g17Get.T4.2 g17Get.B4=true:=by kernel_rfl
set_option maxHeartbeats 8000000 in
set_option maxRecDepth 100000 in
theorem g17Get.calls (k:Nat) (B:Option Addr) (A:Nat) (d:List (S75)) (W:ByteArray) (r1:Int) (r2:ByteArray) (r3:Int) (w:World) (ac:Kd.C k75 w B d.length d) (ad:d.length≤A) (h:g17Get.f k d W=some (r1,r2,r3)) :
  Calls Tryz.prog 69 #[.agg #[.slice B d.length A],.string W] w fun e w'=>e=.returned (.tuple #[.agg #[.int .i64 r1,.string r2],.int .i64 r3])∧Below w.heap.size w w':=by
 have az:=Tryz.underlying24;have aA:=Tryz.underlying60;have O:=Aside0.mk ac;have ae:=Aside0.mk ad;clear ac ad;have HB:=Aside0.mk (Below.refl w.heap.size w);have H:((g17Place.f k d W).bind fun L=>(if L.2=true then (if 0≤L.1 then (if L.1 < (d.length:Int) then (some ((rd_T75 d L.1).f1,(rd_T75 d L.1).f2,0)) else (none)) else (none)) else (some (0,(⟨#[]⟩:ByteArray),5))))=some (r1,r2,r3):=h;clear h;replace H:=zbd H;obtain ⟨⟨g,an⟩,A3,H⟩:=H;dsimp only at H;by_cases c4:an=true
 ·subst c4;have H1:(if 0≤g then (if g < (d.length:Int) then (some ((rd_T75 d g).f1,(rd_T75 d g).f2,0)) else (none)) else (none))=some (r1,r2,r3):=by rw [if_pos rfl] at H;exact H
  clear H;have H:=H1;clear H1;replace H:=zdn H;obtain ⟨aB,H⟩:=H;replace H:=zdn H;obtain ⟨aC,H⟩:=H;simp only [Option.some.injEq,Prod.mk.injEq] at H;obtain ⟨rfl,rfl,rfl⟩:=H;go_enter Tryz.func69,Tryz.ntmps69;(try go_wp2_with (first | ((with_reducible refine zgd 2 ?_);refine zBx 2 #[.slice B d.length A] 24 ?_;intro Q hg w7 hbox hb;have j:=Aside0.mk (hbox);have aj:=zGE HB hg;have ak:=zGE HB hg;replace HB:=zbs HB hb;clear hb hbox hg) | ((with_reducible refine zgd 4 ?_);refine zBx 4 #[.int .i64 0,.string (⟨#[]⟩:ByteArray)] 60 ?_;intro l hg X hbox hb;have o:=Aside0.mk (hbox);have a:=zGE HB hg;have al:=zGE HB hg;replace HB:=zbs HB hb;have q:=zNl j hg;have z:=zNg j hg;replace j:=zkb j hb;clear hb hbox hg;have aD:=q.out;have aE:=z.out;have aF:=zF1 j) | ((with_reducible refine zgc 36 ?_);refine zGL 12 Tryz.func36 #[.slice B d.length A,.string W] ?_;(with_reducible refine (g17Place.calls k _ _ d W g true _ ?side1 ?side2 A3.out).mono ?_);(case side1=>repeat (first | exact (Kd.C_below O.out HB.out) | (with_reducible refine Kd.C_alloc ?_ _) | (with_reducible refine Kd.C_drewN ?_ _) | (with_reducible refine Kd.C_drew ?_)));(case side2=>exact ae.out);rintro e w' ⟨rfl,⟨nd,rfl⟩⟩;refine ⟨_,rfl,?_⟩;(try (rw [drewN_self X];generalize hq_:World.drewN X _=X;have T:Aside0 (X.heap[Q]? = some (.cells #[.slice B d.length A] 24 (0,0))):=⟨by rw [← hq_];exact (zb j)⟩;have U:Aside0 (X.heap[l]? = some (.cells #[.int .i64 0,.string (⟨#[]⟩:ByteArray)] 60 (0,0))):=⟨by rw [← hq_];exact (zb o)⟩;have V:Aside0 (Below w.heap.size w X):=⟨by rw [← hq_];exact zB⟩;clear j o HB hq_;have j:=T;have o:=U;have HB:=V;clear T U V)))));replace j:=Aside0.mk (blk_drew j.out);replace o:=Aside0.mk (blk_drew o.out);replace HB:=Aside0.mk (below_drew1 HB.out);have Y:0≤(g:Int):=zD;have Z:g < (d.length:Int):=zD;obtain ⟨y,ao,D,E,F⟩:=at_T75 O.out g Y Z;have r:=F;have s:=E;have t:=D;cases ao;replace D:=zC D;replace E:=zC E;replace F:=zC F;replace Y:=eq_true Y;replace Z:=eq_true Z;have aa:0≤(g:Int):=zD;have ab:g < (d.length:Int):=zD;obtain ⟨am,ap,G,I,J⟩:=at_T75 O.out g aa ab;have u:=J;have v:=I;have x:=G;obtain rfl:y=am:=(by injection ap);replace G:=zC G;replace I:=zC I;replace J:=zC J;replace aa:=eq_true aa;replace ab:=eq_true ab;refine start_ (n:=15) (S:=fun w'=>w'.cell? ⟨Q,0,none⟩=some (.slice (some y) d.length A)∧w'.cell? (y.add ((g).toNat*3))=some (.string ((rd_T75 d g).f0))∧w'.cell? ⟨(y.add ((g).toNat*3)).block,(y.add ((g).toNat*3)).off+1,none⟩=some (.int .i64 ((rd_T75 d g).f1))∧w'.cell? ⟨(y.add ((g).toNat*3)).block,(y.add ((g).toNat*3)).off+2,none⟩=some (.string ((rd_T75 d g).f2))∧w'.cell? (y.add ((g).toNat*3))=some (.string ((rd_T75 d g).f0))∧w'.cell? ⟨(y.add ((g).toNat*3)).block,(y.add ((g).toNat*3)).off+1,none⟩=some (.int .i64 ((rd_T75 d g).f1))∧w'.cell? ⟨(y.add ((g).toNat*3)).block,(y.add ((g).toNat*3)).off+2,none⟩=some (.string ((rd_T75 d g).f2))) (ds:=[]) (bm 15 0) (by kernel_rfl) rfl rfl ⟨(blk_cell j.out 0).trans rfl,(zX t),(zX s),(zX r),(zX x),(zX v),(zX u)⟩ (fun hHeld=>?_);refine with_tabW g17Get.tab4 g17Get.bits4 (fun HT_ HW_=>?_);generalize X.drew=aI at j o HB D E F G I J hHeld ⊢;refine zPu 0 18 1 ?_;refine zPu 2 20 5 ?_;refine zPu 6 24 69 ?_;refine zPu 8 26 325 ?_;refine zTk 1 19 327 ?_;refine zPu 3 21 335 ?_;refine zPu 4 22 351 ?_;refine zTk 5 23 383 ?_;refine zTk 7 25 511 ?_;refine zPu 9 27 1023 ?_;refine zPu 10 28 2047 ?_;refine zTk 11 29 4095 ?_;refine zPu 12 30 8191 ?_;refine one_ (i:=13) (N:=none) (bm 15 16383) rfl rfl (one_of HT_.out (by kernel_rfl)) (by decide) (fun K hK=>?_);have hs12:=zCz o 0 (.int .i64 0);have hfs12:=zCf o 0;have aq:=q.out;have ar:=z.out;have hs13:=zCz o 1 (.string (⟨#[]⟩:ByteArray));have hfs13:=zCf o 1;have au:=q.out;have av:=z.out;refine skip_ (w1:=?_) (by rfl) rfl ?_ ?_;rotate_left
  ·go_simp;rfl
  refine hK.out _ _ ⟨((cell_far (p:=⟨l,_,none⟩) q.out _).trans (((cell_far (p:=⟨l,_,none⟩) q.out _).trans (hHeld.1)))),((cell_far (p:=⟨l,_,none⟩) (by first | exact Nat.ne_of_lt (Nat.lt_of_lt_of_le (by have:=World.block_lt_of_cell? _ _ t;first | rwa [add_block] at this | exact this) a.out) | (rw [add_block];exact Nat.ne_of_lt (Nat.lt_of_lt_of_le (by have:=World.block_lt_of_cell? _ _ t;first | rwa [add_block] at this | exact this) a.out)) | (show (Addr.add _ _).block≠_;rw [add_block];exact Nat.ne_of_lt (Nat.lt_of_lt_of_le (by have:=World.block_lt_of_cell? _ _ t;first | rwa [add_block] at this | exact this) a.out)) | (dsimp only;exact Nat.ne_of_lt (Nat.lt_of_lt_of_le (by have:=World.block_lt_of_cell? _ _ t;first | rwa [add_block] at this | exact this) a.out))) _).trans (((cell_far (p:=⟨l,_,none⟩) (by first | exact Nat.ne_of_lt (Nat.lt_of_lt_of_le (by have:=World.block_lt_of_cell? _ _ t;first | rwa [add_block] at this | exact this) a.out) | (rw [add_block];exact Nat.ne_of_lt (Nat.lt_of_lt_of_le (by have:=World.block_lt_of_cell? _ _ t;first | rwa [add_block] at this | exact this) a.out)) | (show (Addr.add _ _).block≠_;rw [add_block];exact Nat.ne_of_lt (Nat.lt_of_lt_of_le (by have:=World.block_lt_of_cell? _ _ t;first | rwa [add_block] at this | exact this) a.out)) | (dsimp only;exact Nat.ne_of_lt (Nat.lt_of_lt_of_le (by have:=World.block_lt_of_cell? _ _ t;first | rwa [add_block] at this | exact this) a.out))) _).trans (hHeld.2.1)))),((cell_far (p:=⟨l,_,none⟩) (by first | exact Nat.ne_of_lt (Nat.lt_of_lt_of_le (by have:=World.block_lt_of_cell? _ _ s;first | rwa [add_block] at this | exact this) a.out) | (rw [add_block];exact Nat.ne_of_lt (Nat.lt_of_lt_of_le (by have:=World.block_lt_of_cell? _ _ s;first | rwa [add_block] at this | exact this) a.out)) | (show (Addr.add _ _).block≠_;rw [add_block];exact Nat.ne_of_lt (Nat.lt_of_lt_of_le (by have:=World.block_lt_of_cell? _ _ s;first | rwa [add_block] at this | exact this) a.out)) | (dsimp only;exact Nat.ne_of_lt (Nat.lt_of_lt_of_le (by have:=World.block_lt_of_cell? _ _ s;first | rwa [add_block] at this | exact this) a.out))) _).trans (((cell_far (p:=⟨l,_,none⟩) (by first | exact Nat.ne_of_lt (Nat.lt_of_lt_of_le (by have:=World.block_lt_of_cell? _ _ s;first | rwa [add_block] at this | exact this) a.out) | (rw [add_block];exact Nat.ne_of_lt (Nat.lt_of_lt_of_le (by have:=World.block_lt_of_cell? _ _ s;first | rwa [add_block] at this | exact this) a.out)) | (show (Addr.add _ _).block≠_;rw [add_block];exact Nat.ne_of_lt (Nat.lt_of_lt_of_le (by have:=World.block_lt_of_cell? _ _ s;first | rwa [add_block] at this | exact this) a.out)) | (dsimp only;exact Nat.ne_of_lt (Nat.lt_of_lt_of_le (by have:=World.block_lt_of_cell? _ _ s;first | rwa [add_block] at this | exact this) a.out))) _).trans (hHeld.2.2.1)))),((cell_far (p:=⟨l,_,none⟩) (by first | exact Nat.ne_of_lt (Nat.lt_of_lt_of_le (by have:=World.block_lt_of_cell? _ _ r;first | rwa [add_block] at this | exact this) a.out) | (rw [add_block];exact Nat.ne_of_lt (Nat.lt_of_lt_of_le (by have:=World.block_lt_of_cell? _ _ r;first | rwa [add_block] at this | exact this) a.out)) | (show (Addr.add _ _).block≠_;rw [add_block];exact Nat.ne_of_lt (Nat.lt_of_lt_of_le (by have:=World.block_lt_of_cell? _ _ r;first | rwa [add_block] at this | exact this) a.out)) | (dsimp only;exact Nat.ne_of_lt (Nat.lt_of_lt_of_le (by have:=World.block_lt_of_cell? _ _ r;first | rwa [add_block] at this | exact this) a.out))) _).trans (((cell_far (p:=⟨l,_,none⟩) (by first | exact Nat.ne_of_lt (Nat.lt_of_lt_of_le (by have:=World.block_lt_of_cell? _ _ r;first | rwa [add_block] at this | exact this) a.out) | (rw [add_block];exact Nat.ne_of_lt (Nat.lt_of_lt_of_le (by have:=World.block_lt_of_cell? _ _ r;first | rwa [add_block] at this | exact this) a.out)) | (show (Addr.add _ _).block≠_;rw [add_block];exact Nat.ne_of_lt (Nat.lt_of_lt_of_le (by have:=World.block_lt_of_cell? _ _ r;first | rwa [add_block] at this | exact this) a.out)) | (dsimp only;exact Nat.ne_of_lt (Nat.lt_of_lt_of_le (by have:=World.block_lt_of_cell? _ _ r;first | rwa [add_block] at this | exact this) a.out))) _).trans (hHeld.2.2.2.1)))),((cell_far (p:=⟨l,_,none⟩) (by first | exact Nat.ne_of_lt (Nat.lt_of_lt_of_le (by have:=World.block_lt_of_cell? _ _ x;first | rwa [add_block] at this | exact this) a.out) | (rw [add_block];exact Nat.ne_of_lt (Nat.lt_of_lt_of_le (by have:=World.block_lt_of_cell? _ _ x;first | rwa [add_block] at this | exact this) a.out)) | (show (Addr.add _ _).block≠_;rw [add_block];exact Nat.ne_of_lt (Nat.lt_of_lt_of_le (by have:=World.block_lt_of_cell? _ _ x;first | rwa [add_block] at this | exact this) a.out)) | (dsimp only;exact Nat.ne_of_lt (Nat.lt_of_lt_of_le (by have:=World.block_lt_of_cell? _ _ x;first | rwa [add_block] at this | exact this) a.out))) _).trans (((cell_far (p:=⟨l,_,none⟩) (by first | exact Nat.ne_of_lt (Nat.lt_of_lt_of_le (by have:=World.block_lt_of_cell? _ _ x;first | rwa [add_block] at this | exact this) a.out) | (rw [add_block];exact Nat.ne_of_lt (Nat.lt_of_lt_of_le (by have:=World.block_lt_of_cell? _ _ x;first | rwa [add_block] at this | exact this) a.out)) | (show (Addr.add _ _).block≠_;rw [add_block];exact Nat.ne_of_lt (Nat.lt_of_lt_of_le (by have:=World.block_lt_of_cell? _ _ x;first | rwa [add_block] at this | exact this) a.out)) | (dsimp only;exact Nat.ne_of_lt (Nat.lt_of_lt_of_le (by have:=World.block_lt_of_cell? _ _ x;first | rwa [add_block] at this | exact this) a.out))) _).trans (hHeld.2.2.2.2.1)))),((cell_far (p:=⟨l,_,none⟩) (by first | exact Nat.ne_of_lt (Nat.lt_of_lt_of_le (by have:=World.block_lt_of_cell? _ _ v;first | rwa [add_block] at this | exact this) a.out) | (rw [add_block];exact Nat.ne_of_lt (Nat.lt_of_lt_of_le (by have:=World.block_lt_of_cell? _ _ v;first | rwa [add_block] at this | exact this) a.out)) | (show (Addr.add _ _).block≠_;rw [add_block];exact Nat.ne_of_lt (Nat.lt_of_lt_of_le (by have:=World.block_lt_of_cell? _ _ v;first | rwa [add_block] at this | exact this) a.out)) | (dsimp only;exact Nat.ne_of_lt (Nat.lt_of_lt_of_le (by have:=World.block_lt_of_cell? _ _ v;first | rwa [add_block] at this | exact this) a.out))) _).trans (((cell_far (p:=⟨l,_,none⟩) (by first | exact Nat.ne_of_lt (Nat.lt_of_lt_of_le (by have:=World.block_lt_of_cell? _ _ v;first | rwa [add_block] at this | exact this) a.out) | (rw [add_block];exact Nat.ne_of_lt (Nat.lt_of_lt_of_le (by have:=World.block_lt_of_cell? _ _ v;first | rwa [add_block] at this | exact this) a.out)) | (show (Addr.add _ _).block≠_;rw [add_block];exact Nat.ne_of_lt (Nat.lt_of_lt_of_le (by have:=World.block_lt_of_cell? _ _ v;first | rwa [add_block] at this | exact this) a.out)) | (dsimp only;exact Nat.ne_of_lt (Nat.lt_of_lt_of_le (by have:=World.block_lt_of_cell? _ _ v;first | rwa [add_block] at this | exact this) a.out))) _).trans (hHeld.2.2.2.2.2.1)))),((cell_far (p:=⟨l,_,none⟩) (by first | exact Nat.ne_of_lt (Nat.lt_of_lt_of_le (by have:=World.block_lt_of_cell? _ _ u;first | rwa [add_block] at this | exact this) a.out) | (rw [add_block];exact Nat.ne_of_lt (Nat.lt_of_lt_of_le (by have:=World.block_lt_of_cell? _ _ u;first | rwa [add_block] at this | exact this) a.out)) | (show (Addr.add _ _).block≠_;rw [add_block];exact Nat.ne_of_lt (Nat.lt_of_lt_of_le (by have:=World.block_lt_of_cell? _ _ u;first | rwa [add_block] at this | exact this) a.out)) | (dsimp only;exact Nat.ne_of_lt (Nat.lt_of_lt_of_le (by have:=World.block_lt_of_cell? _ _ u;first | rwa [add_block] at this | exact this) a.out))) _).trans (((cell_far (p:=⟨l,_,none⟩) (by first | exact Nat.ne_of_lt (Nat.lt_of_lt_of_le (by have:=World.block_lt_of_cell? _ _ u;first | rwa [add_block] at this | exact this) a.out) | (rw [add_block];exact Nat.ne_of_lt (Nat.lt_of_lt_of_le (by have:=World.block_lt_of_cell? _ _ u;first | rwa [add_block] at this | exact this) a.out)) | (show (Addr.add _ _).block≠_;rw [add_block];exact Nat.ne_of_lt (Nat.lt_of_lt_of_le (by have:=World.block_lt_of_cell? _ _ u;first | rwa [add_block] at this | exact this) a.out)) | (dsimp only;exact Nat.ne_of_lt (Nat.lt_of_lt_of_le (by have:=World.block_lt_of_cell? _ _ u;first | rwa [add_block] at this | exact this) a.out))) _).trans (hHeld.2.2.2.2.2.2))))⟩ (fun hHeld=>?_);clear hK K;refine zPu 14 5 32767 ?_;refine done_ (done_of HT_.out (by kernel_rfl)) ?_;(try go_wp2);refine bodyPost_ret (results_ct rfl _ _ l 60 #[.int .i64 ((rd_T75 d g).f1),.string ((rd_T75 d g).f2)] (0,0) _ rfl (zc o) Tryz.underlying60 rfl (by kernel_rfl)) rfl ?_;exact ⟨zW,zB⟩
 ·replace c4:=Bool.eq_false_iff.mpr c4;subst c4;have H1:(some (0,(⟨#[]⟩:ByteArray),5))=some (r1,r2,r3):=by rw [if_neg (show ¬ (false=true) by decide)] at H;exact H
  clear H;have H:=H1;clear H1;simp only [Option.some.injEq,Prod.mk.injEq] at H;obtain ⟨rfl,rfl,rfl⟩:=H;go_enter Tryz.func69,Tryz.ntmps69;go_wp2_with (first | ((with_reducible refine zgd 2 ?_);refine zBx 2 #[.slice B d.length A] 24 ?_;intro Q hg aJ hbox hb;have j:=Aside0.mk (hbox);have aj:=zGE HB hg;have ak:=zGE HB hg;replace HB:=zbs HB hb;clear hb hbox hg) | ((with_reducible refine zgd 4 ?_);refine zBx 4 #[.int .i64 0,.string (⟨#[]⟩:ByteArray)] 60 ?_;intro l hg R hbox hb;have o:=Aside0.mk (hbox);have a:=zGE HB hg;have al:=zGE HB hg;replace HB:=zbs HB hb;have q:=zNl j hg;have z:=zNg j hg;replace j:=zkb j hb;clear hb hbox hg;have ax:=q.out;have ay:=z.out;have aG:=zF1 j) | ((with_reducible refine zgc 36 ?_);refine zGL 12 Tryz.func36 #[.slice B d.length A,.string W] ?_;(with_reducible refine (g17Place.calls k _ _ d W g false _ ?side1 ?side2 A3.out).mono ?_);(case side1=>repeat (first | exact (Kd.C_below O.out HB.out) | (with_reducible refine Kd.C_alloc ?_ _) | (with_reducible refine Kd.C_drewN ?_ _) | (with_reducible refine Kd.C_drew ?_)));(case side2=>exact ae.out);rintro e w' ⟨rfl,⟨nd,rfl⟩⟩;refine ⟨_,rfl,?_⟩;(try (rw [drewN_self R];generalize hq_:World.drewN R _=R;have T:Aside0 (R.heap[Q]? = some (.cells #[.slice B d.length A] 24 (0,0))):=⟨by rw [← hq_];exact (zb j)⟩;have U:Aside0 (R.heap[l]? = some (.cells #[.int .i64 0,.string (⟨#[]⟩:ByteArray)] 60 (0,0))):=⟨by rw [← hq_];exact (zb o)⟩;have V:Aside0 (Below w.heap.size w R):=⟨by rw [← hq_];exact zB⟩;clear j o HB hq_;have j:=T;have o:=U;have HB:=V;clear T U V));have aH:=zF2 o));refine bodyPost_ret (results_ct rfl _ _ l 60 #[.int .i64 0,.string (⟨#[]⟩:ByteArray)] (0,0) _ rfl (zc o) Tryz.underlying60 rfl (by kernel_rfl)) rfl ?_;exact ⟨zW,zB⟩
def g17Spot.l0:Nat→List ByteArray→ByteArray→Int→Int→Option (Int)
 | 0,_,_,_,_=>none
 | k+1,e,f,a,d=>if a < d then (if 0≤(wrap64 (Int.tdiv (wrap64 (a+d)) 2)) then (if (wrap64 (Int.tdiv (wrap64 (a+d)) 2)) < (e.length:Int) then (if (Op.bytesLess ((rdOf ByteArray.empty e (wrap64 (Int.tdiv (wrap64 (a+d)) 2))).toList) f.toList)=true then (g17Spot.l0 k e f (wrap64 ((wrap64 (Int.tdiv (wrap64 (a+d)) 2))+1)) d) else (g17Spot.l0 k e f a (wrap64 (Int.tdiv (wrap64 (a+d)) 2)))) else (none)) else (none)) else (some a)
def g17Spot.f (k:Nat) (a:List ByteArray) (d:ByteArray):Option (Int):=g17Spot.l0 k a d 0 (a.length:Int)
set_option maxHeartbeats 8000000 in
set_option maxRecDepth 100000 in
theorem g17Spot.calls (k:Nat) (F:Option Addr) (G:Nat) (d:List ByteArray) (q:ByteArray) (r:Int) (w:World) (z:Kd.C Kd.string w F d.length d) (A:d.length≤G) (h:g17Spot.f k d q=some r) :
  Calls Tryz.prog 93 #[.slice F d.length G,.string q] w fun e w'=>e=.returned (.int .i64 r)∧Drawn0 w w':=by
 have B:=Aside0.mk z;have R:=Aside0.mk A;clear z A;have H:(g17Spot.l0 k d q 0 (d.length:Int))=some r:=h;clear h;have H':=Aside0.mk H;clear H;go_enter Tryz.func93,Tryz.ntmps93;go_wp2;go_loopg [5,6] k (fun kq J L w'=>∃ (g:Int) (j:Int),J=.int .i64 g∧L=.int .i64 j∧Aside0 (g17Spot.l0 kq d q g j=some r)∧Aside0 (kq≤k)∧Drawn0 w w')
 case atStart=>exact ⟨(0),((d.length:Int)),zE,zE,H',⟨Nat.le_refl _⟩,zDr⟩
 case round =>
  clear H';obtain ⟨g,j,rfl,rfl,HA,u,⟨U,rfl⟩⟩:=hrel;cases gk with
  | zero=>exact absurd HA.out (by simp [g17Spot.l0])
  | succ k1 =>
   have H:=HA.out;clear HA;simp only [g17Spot.l0] at H;replace H:=zdd H;rcases H with ⟨D,H⟩ | ⟨D,H⟩
   ·obtain ⟨a,s⟩:=zj (α:=Int) (wrap64 (Int.tdiv (wrap64 (g+j)) 2));replace H:(if 0≤(a) then (if (a) < (d.length:Int) then (if (Op.bytesLess ((rdOf ByteArray.empty d (a)).toList) q.toList)=true then (g17Spot.l0 k1 d q (wrap64 ((a)+1)) j) else (g17Spot.l0 k1 d q g a)) else (none)) else (none))=some r:=zJ s H;have I:(IntKind.i64.wrap (Int.tdiv (wrap64 (g+j)) 2))=a:=(i64_w _).trans s;replace H:=zdn H;obtain ⟨O,H⟩:=H;replace H:=zdn H;obtain ⟨Q,H⟩:=H;replace H:=zif H;rcases H with ⟨x,H⟩ | ⟨x,H⟩
    ·have E:(Op.bytesLess ((rdOf ByteArray.empty d (a)).toList) q.toList)=true:=x;clear x;have H':=Aside0.mk H;clear H;have l:0≤((a):Int):=zD;have o:(a) < (d.length:Int):=zD;obtain ⟨y,t,v⟩:=Kd.at_string B.out (a) l o;cases t;replace l:=eq_true l;replace o:=eq_true o;go_wp2;go_roundg k1
     case measure=>have:=u.out;omega
     case rel=>exact ⟨(wrap64 ((a)+1)),(j),(by first | rfl | (simp;done) | (simp only [← s]<;>(first | rfl | simp)) | (simp [*];done)),zE,H',⟨by have:=u.out;omega⟩,zDr⟩
    ·have E:(Op.bytesLess ((rdOf ByteArray.empty d (a)).toList) q.toList)=false:=by simpa using x
     clear x;have H':=Aside0.mk H;clear H;have l:0≤((a):Int):=zD;have o:(a) < (d.length:Int):=zD;obtain ⟨y,t,v⟩:=Kd.at_string B.out (a) l o;cases t;replace l:=eq_true l;replace o:=eq_true o;go_wp2;go_roundg k1
     case measure=>have:=u.out;omega
     case rel=>exact ⟨(g),(a),zE,(by first | rfl | (simp;done) | (simp only [← s]<;>(first | rfl | simp)) | (simp [*];done)),H',⟨by have:=u.out;omega⟩,zDr⟩
   ·obtain rfl:=Option.some.inj H;go_wp2;go_ret;exact ⟨zE,zDr⟩
def g17Insert.f (k:Nat) (d:List ByteArray) (u:ByteArray):Option (List ByteArray):=(g17Spot.f k d u).bind fun a=>(if a < (d.length:Int) then (if 0≤a then (if (rdOf ByteArray.empty d a).toList=u.toList then (some d) else ((some (([]:List ByteArray):List ByteArray)).bind fun e=>(if a≤(d.length:Int) then ((some (d.take (a:Int).toNat:List ByteArray)).bind fun g=>(if e.length+g.length < 8796093022208 then ((some (e++g:List ByteArray)).bind fun h=>(if h.length < 8796093022208 then ((some (h++[u]:List ByteArray)).bind fun j=>((some (d.drop (a:Int).toNat:List ByteArray)).bind fun l=>(if j.length+l.length < 8796093022208 then (some (j++l)) else (none)))) else (none))) else (none))) else (none)))) else (none)) else ((some (([]:List ByteArray):List ByteArray)).bind fun o=>(if 0≤a then (if a≤(d.length:Int) then ((some (d.take (a:Int).toNat:List ByteArray)).bind fun q=>(if o.length+q.length < 8796093022208 then ((some (o++q:List ByteArray)).bind fun r=>(if r.length < 8796093022208 then ((some (r++[u]:List ByteArray)).bind fun s=>((some (d.drop (a:Int).toNat:List ByteArray)).bind fun t=>(if s.length+t.length < 8796093022208 then (some (s++t)) else (none)))) else (none))) else (none))) else (none)) else (none))))
set_option maxHeartbeats 8000000 in
set_option maxRecDepth 100000 in
theorem g17Insert.calls (k:Nat) (j:Nat→Prop) (V:Value) (g:List ByteArray) (D:ByteArray) (r:List ByteArray) (w0 w:World) (hB:Below w0.heap.size w0 w) (bx:Kd.R Kd.string 9 w w0.heap.size j V g) (h:g17Insert.f k g D=some r) :
  Calls Tryz.prog 68 #[V,.string D] w fun e w'=>∃ a9:Value,e=.returned (a9)∧Kd.R Kd.string 9 w' w0.heap.size (fun k_=>(j k_∨w.heap.size≤k_)) a9 r∧Below w0.heap.size w0 w'∧Kept w w' (fun k_=>j k_):=by
 have d:=Aside0.mk (show Kd.R Kd.string 9 w w0.heap.size (fun k_=>(j k_∨w.heap.size≤k_)) V g from Kd.R_mono bx (fun k_ hk=>(.inl hk)));have HK:=Aside0.mk (Kept.refl w (fun k_=>j k_));have HW0:=Aside0.mk hB.size;have HB:=Aside0.mk hB;clear hB;have H:((g17Spot.f k g D).bind fun a=>(if a < (g.length:Int) then (if 0≤a then (if (rdOf ByteArray.empty g a).toList=D.toList then (some g) else ((some (([]:List ByteArray):List ByteArray)).bind fun E=>(if a≤(g.length:Int) then ((some (g.take (a:Int).toNat:List ByteArray)).bind fun q=>(if E.length+q.length < 8796093022208 then ((some (E++q:List ByteArray)).bind fun x=>(if x.length < 8796093022208 then ((some (x++[D]:List ByteArray)).bind fun s=>((some (g.drop (a:Int).toNat:List ByteArray)).bind fun l=>(if s.length+l.length < 8796093022208 then (some (s++l)) else (none)))) else (none))) else (none))) else (none)))) else (none)) else ((some (([]:List ByteArray):List ByteArray)).bind fun F=>(if 0≤a then (if a≤(g.length:Int) then ((some (g.take (a:Int).toNat:List ByteArray)).bind fun t=>(if F.length+t.length < 8796093022208 then ((some (F++t:List ByteArray)).bind fun y=>(if y.length < 8796093022208 then ((some (y++[D]:List ByteArray)).bind fun u=>((some (g.drop (a:Int).toNat:List ByteArray)).bind fun o=>(if u.length+o.length < 8796093022208 then (some (u++o)) else (none)))) else (none))) else (none))) else (none)) else (none)))))=some r:=h;clear h;replace H:=zbd H;obtain ⟨a,A3,H⟩:=H;replace H:=zdd H;rcases H with ⟨bf,H⟩ | ⟨bf,H⟩
 ·by_cases c5:0≤a
  ·rw [if_pos c5] at H;have bU:=decide_eq_true c5;clear c5;replace H:=zbb H;rcases H with ⟨bg,bh,H⟩ | ⟨c6,bg,bh,H⟩
   ·obtain rfl:=Option.some.inj H;obtain ⟨bz,bA,bB⟩:=Kd.R_slice d.out;subst bB;go_enter Tryz.func68,Tryz.ntmps68;go_wp2_with (first | ((with_reducible refine zgc 93 ?_);refine zGL 9 Tryz.func93 #[.slice bz g.length bA,.string D] ?_;(with_reducible refine (g17Spot.calls k _ _ g D a _ ?side1 ?side2 A3.out).mono ?_);(case side1=>repeat (first | exact (Kd.R_reads' d.out).2.2 | (with_reducible refine Kd.C_alloc ?_ _) | (with_reducible refine Kd.C_drewN ?_ _) | (with_reducible refine Kd.C_drew ?_)));(case side2=>exact (Kd.R_reads' d.out).2.1);rintro e w' ⟨rfl,⟨nd,rfl⟩⟩;refine ⟨_,rfl,?_⟩;have G:0≤(a:Int):=zD;have I:a < (g.length:Int):=zD;obtain ⟨v,ay,aJ⟩:=Kd.at_string (Kd.R_reads' d.out).2.2 a G I;cases ay;replace G:=eq_true G;replace I:=eq_true I));go_ret;exact ⟨_,zW,(zR d),zB,(zK HK)⟩
   ·obtain ⟨E,Y⟩:=zy (α:=List ByteArray) (([]:List ByteArray));replace H:(if a≤(g.length:Int) then ((some (g.take (a:Int).toNat:List ByteArray)).bind fun q=>(if E.length+q.length < 8796093022208 then ((some (E++q:List ByteArray)).bind fun x=>(if x.length < 8796093022208 then ((some (x++[D]:List ByteArray)).bind fun s=>((some (g.drop (a:Int).toNat:List ByteArray)).bind fun l=>(if s.length+l.length < 8796093022208 then (some (s++l)) else (none)))) else (none))) else (none))) else (none))=some r:=zY Y H;have aH:=Aside0.mk Y;clear Y;have bV:=eq_true (zD:0≤a);replace H:=zen H;obtain ⟨bW,bX,H⟩:=H;obtain ⟨q,Z⟩:=zy (α:=List ByteArray) (g.take (a:Int).toNat);replace H:(if E.length+q.length < 8796093022208 then ((some (E++q:List ByteArray)).bind fun x=>(if x.length < 8796093022208 then ((some (x++[D]:List ByteArray)).bind fun s=>((some (g.drop (a:Int).toNat:List ByteArray)).bind fun l=>(if s.length+l.length < 8796093022208 then (some (s++l)) else (none)))) else (none))) else (none))=some r:=zY Z H;have J:=Aside0.mk Z;clear Z;replace H:=zan H;obtain ⟨aU,H⟩:=H;obtain ⟨x,aa⟩:=zy (α:=List ByteArray) (E++q);replace H:(if x.length < 8796093022208 then ((some (x++[D]:List ByteArray)).bind fun s=>((some (g.drop (a:Int).toNat:List ByteArray)).bind fun l=>(if s.length+l.length < 8796093022208 then (some (s++l)) else (none)))) else (none))=some r:=zY aa H;have aV:=Aside0.mk aa;clear aa;replace H:=zan H;obtain ⟨aW,H⟩:=H;obtain ⟨s,ab⟩:=zy (α:=List ByteArray) (x++[D]);replace H:((some (g.drop (a:Int).toNat:List ByteArray)).bind fun l=>(if s.length+l.length < 8796093022208 then (some (s++l)) else (none)))=some r:=zY ab H;have aX:=Aside0.mk ab;clear ab;have bI:=eq_true (zD:0≤a);have bJ:=eq_true (zD:a≤(g.length:Int));obtain ⟨l,ac⟩:=zy (α:=List ByteArray) (g.drop (a:Int).toNat);replace H:(if s.length+l.length < 8796093022208 then (some (s++l)) else (none))=some r:=zY ac H;have ad:=Aside0.mk ac;clear ac;replace H:=zan H;obtain ⟨aY,H⟩:=H;obtain ⟨bi,ae⟩:=zy (α:=List ByteArray) (s++l);replace H:(some bi)=some r:=zY ae H;have aZ:=Aside0.mk ae;clear ae;obtain rfl:=Option.some.inj H;obtain ⟨bj,z,bk⟩:=Kd.R_slice d.out;subst bk;go_enter Tryz.func68,Tryz.ntmps68;go_wp2_with (first | ((with_reducible refine zgc 93 ?_);refine zGL 9 Tryz.func93 #[.slice bj g.length z,.string D] ?_;(with_reducible refine (g17Spot.calls k _ _ g D a _ ?side1 ?side2 A3.out).mono ?_);(case side1=>repeat (first | exact (Kd.R_reads' d.out).2.2 | (with_reducible refine Kd.C_alloc ?_ _) | (with_reducible refine Kd.C_drewN ?_ _) | (with_reducible refine Kd.C_drew ?_)));(case side2=>exact (Kd.R_reads' d.out).2.1);rintro e w' ⟨rfl,⟨nd,rfl⟩⟩;refine ⟨_,rfl,?_⟩;have G:0≤(a:Int):=zD;have I:a < (g.length:Int):=zD;obtain ⟨v,ay,aJ⟩:=Kd.at_string (Kd.R_reads' d.out).2.2 a G I;cases ay;replace G:=eq_true G;replace I:=eq_true I) | ((with_reducible refine zgd 23 ?_);refine Kd.R_lit Kd.string _ 9 ?hg (N:=23) ?hd (xs:=([]:List ByteArray)) (inner:=[]) (ok:=fun _=>True) (okp:=fun _=>True) ?hr ?hp (fun _ hk=>hk) trivial (Below.refl _ _) (Nat.le_refl _) (by simp) ?_;(case hd=>rfl);(case hg=>rfl);(case hr=>first | (go_simp;done) | (go_simp;rfl));(case hp=>exact (Reps.none _ _));intro bl b4 T hb hg_ hnew_;clear hg_ hnew_;(first | rw [← aH.out] at T | (simp only [Int.reduceToNat] at T;rw [← aH.out] at T));have af:=Aside0.mk (Kd.R_lower (Kd.R_new' (Kd.R_newM (M:=fun k_=>(j k_∨w.heap.size≤k_)) T (zK1 HK) (fun k_ h_=>.inr h_)) (Kd.R_lt (zR d))) (below_size zB));replace d:=Aside0.mk (Kd.R_elder' (zR d) (Kd.R_base T) hb);replace HK:=zkk HK hb;replace HB:=zbs HB hb;clear hb T;have aK:(a:Int)≤((g.length:Int):Int):=zD;obtain ⟨bY,hi018,_,hsz18,_⟩:=info_parts info9;have hroom18:g.length≤z:=(Kd.R_reads' d.out).2.1;have hC18:Kd.C Kd.string _ (some v) g.length g:=(Kd.R_reads' d.out).2.2;have hcut18:=cut_to (P:=Tryz.prog) 27 9 .i64 Tryz.underlying27 hi018 (some v) g.length z a (zD) aK hroom18;have az:=Kd.C_take (m:=(a:Int).toNat) hC18 (by omega);have aA:q.length=(a:Int).toNat:=(by rw [J.out,List.length_take];omega);rw [← J.out] at az;rw [← aA] at hcut18;have L:=Aside0.mk az;have bK:=Aside0.mk (show q.length≤z from by omega);clear az hC18 hroom18 hi018 hsz18;have KY18:=Aside0.mk aA;clear aA;have KL18:=Aside0.mk (show (a:Int).toNat≤g.length from by omega);replace aK:=eq_true aK) | ((with_reducible refine gate_builtin (b:=.append) (xs:=#[.tmp 23,.tmp 26]) rfl ?_);at_builtin;refine Kd.R_append_rows Kd.string (w0:=w0) w0.heap.size rfl (.tmp 23) (.tmp 26) 27 9 (.string ⟨#[]⟩) 16 rfl Tryz.underlying27 info9 rfl (by decide) (by omega) bl E q _ _ _ (fun k_=>(j k_∨w.heap.size≤k_)∧some k_≠(.slice (some v) g.length z:Value).ownBlock) (fun _=>False) rfl rfl ?aO ?aR (fun _ _ h=>h) (fun _ h=>h.elim) ?aF ?aB ?aS ?aL ?_;(case aR=>repeat (first | exact (by repeat (first | (with_reducible exact L.out) | (with_reducible refine Kd.C_alloc ?_ _) | (with_reducible refine Kd.C_drewN ?_ _) | (with_reducible refine Kd.C_drew ?_) | exact L.out)) | (with_reducible refine Kd.C_alloc ?_ _) | (with_reducible refine Kd.C_drewN ?_ _) | (with_reducible refine Kd.C_drew ?_)));(case aB=>exact zB);(case aF=>exact (fun k_ hk=>⟨(.inr (Nat.le_trans (zK1 HK) hk)),Kd.fresh' (Kd.R_lt (zR d)) k_ hk⟩));(case aO=>exact (by (with_reducible repeat (first | apply Kd.R_alloc | apply Kd.R_drewN | apply Kd.R_drew));exact Kd.R_mono af.out (fun _ hk=>⟨hk.1.1,hk.2⟩)));(case aS=>exact (below_size zB));(case aL=>have:=aU.out;omega);intro bm bC ho hb hg hat;rw [← aV.out] at ho;replace HB:=Aside0.mk (hb);replace HK:=Aside0.mk (Kept.of_grown (S:=(fun k_=>j k_)) hg (zK HK) (fun k_ e_=>(af.out.1 k_ e_).1.1));replace L:=Aside0.mk ((show Kd.C Kd.string bC (some v) q.length q from by rw [J.out];exact Kd.C_take (m:=(a:Int).toNat) ((Kd.R_reads' (Kd.R_after (ok:=(fun k_=>(j k_∨w.heap.size≤k_))) (zR d) hg hat)).2.2) KL18.out));replace d:=Aside0.mk (Kd.R_after (ok:=(fun k_=>(j k_∨w.heap.size≤k_))) (zR d) hg hat);have ag:=Aside0.mk (ho);clear af ho hb hg hat) | ((with_reducible refine gate_builtin (b:=.append) (xs:=#[.tmp 28,.tmp 30]) rfl ?_);at_builtin;refine Kd.R_append Kd.string (w0:=w0) w0.heap.size rfl (.tmp 28) (.tmp 30) 27 9 (.string ⟨#[]⟩) 16 rfl Tryz.underlying27 info9 rfl (by decide) (by omega) bm x D [.string D] (fun k_=>(j k_∨w.heap.size≤k_)∧some k_≠(.slice (some v) g.length z:Value).ownBlock) (fun _=>False) rfl rfl ?aP (fun _ hk=>hk.elim) ?aF ?aO ?aB ?aS ?aL ?_;(case aP=>exact rfl);(case aB=>exact zB);(case aF=>exact (fun k_ hk=>⟨(.inr (Nat.le_trans (zK1 HK) hk)),Kd.fresh' (Kd.R_lt (zR d)) k_ hk⟩));(case aO=>exact (zR ag));(case aS=>exact (below_size zB));(case aL=>have:=aW.out;omega);intro bn bD ho hb hg hat;rw [← aX.out] at ho;replace HB:=Aside0.mk (hb);replace HK:=Aside0.mk (Kept.of_grown (S:=(fun k_=>j k_)) hg (zK HK) (fun k_ e_=>(ag.out.1 k_ e_).1));replace L:=Aside0.mk ((show Kd.C Kd.string bD (some v) q.length q from by rw [J.out];exact Kd.C_take (m:=(a:Int).toNat) ((Kd.R_reads' (Kd.R_after (ok:=(fun k_=>(j k_∨w.heap.size≤k_))) (zR d) hg hat)).2.2) KL18.out));replace d:=Aside0.mk (Kd.R_after (ok:=(fun k_=>(j k_∨w.heap.size≤k_))) (zR d) hg hat);have ah:=Aside0.mk (ho);clear ag ho hb hg hat;have aM:(a:Int)≤((g.length:Int):Int):=zD;obtain ⟨bZ,hi021,_,hsz21,_⟩:=info_parts info9;have hroom21:g.length≤z:=(Kd.R_reads' d.out).2.1;have hC21:Kd.C Kd.string _ (some v) g.length g:=(Kd.R_reads' d.out).2.2;have bo:(0:Int)≤(a:Int):=zD;have hcut21:=cut_from (P:=Tryz.prog) 27 9 .i64 Tryz.underlying27 hi021 1 hsz21 (some v) g.length z a bo aM;have W:=Kd.C_drop (m:=(a:Int).toNat) (c:=z) hC21 (by omega) hroom21;obtain ⟨ba,hA21⟩:∃ A1,A1=(if z=(a:Int).toNat then (some v) else ((some v):Option Addr).map (·.add ((a:Int).toNat*1))):=⟨_,rfl⟩;obtain ⟨bE,aC⟩:∃ c1,c1=z - (a:Int).toNat:=⟨_,rfl⟩;have ai:l.length=g.length - (a:Int).toNat:=(by rw [ad.out,List.length_drop]<;>omega);rw [show (g).drop (a:Int).toNat=l from ad.out.symm] at W;replace W:Kd.C Kd.string _ ba l.length l:=(by rw [hA21];exact W);rw [← ai,← hA21,← aC] at hcut21;have aj:=Aside0.mk W;have bL:=Aside0.mk (show l.length≤bE from by rw [ai,aC];exact Nat.sub_le_sub_right hroom21 _);clear W hC21 hroom21 hi021 hsz21 aC;have KY21:=Aside0.mk ai;have KA21:=Aside0.mk hA21;clear ai hA21;have KL21:=Aside0.mk (show (a:Int).toNat≤g.length from by omega);replace aM:=eq_true aM) | ((with_reducible refine gate_builtin (b:=.append) (xs:=#[.tmp 32,.tmp 35]) rfl ?_);at_builtin;refine Kd.R_append_rows Kd.string (w0:=w0) w0.heap.size rfl (.tmp 32) (.tmp 35) 27 9 (.string ⟨#[]⟩) 16 rfl Tryz.underlying27 info9 rfl (by decide) (by omega) bn s l _ _ _ (fun k_=>(j k_∨w.heap.size≤k_)∧some k_≠(.slice (some v) g.length z:Value).ownBlock) (fun _=>False) rfl rfl ?aO ?aR (fun _ _ h=>h) (fun _ h=>h.elim) ?aF ?aB ?aS ?aL ?_;(case aR=>repeat (first | exact (by repeat (first | (with_reducible exact aj.out) | (with_reducible refine Kd.C_alloc ?_ _) | (with_reducible refine Kd.C_drewN ?_ _) | (with_reducible refine Kd.C_drew ?_) | exact aj.out)) | (with_reducible refine Kd.C_alloc ?_ _) | (with_reducible refine Kd.C_drewN ?_ _) | (with_reducible refine Kd.C_drew ?_)));(case aB=>exact zB);(case aF=>exact (fun k_ hk=>⟨(.inr (Nat.le_trans (zK1 HK) hk)),Kd.fresh' (Kd.R_lt (zR d)) k_ hk⟩));(case aO=>exact (zR ah));(case aS=>exact (below_size zB));(case aL=>have:=aY.out;omega);intro b0 bb ho hb hg hat;rw [← aZ.out] at ho;replace HB:=Aside0.mk (hb);replace HK:=Aside0.mk (Kept.of_grown (S:=(fun k_=>j k_)) hg (zK HK) (fun k_ e_=>(ah.out.1 k_ e_).1));replace L:=Aside0.mk ((show Kd.C Kd.string bb (some v) q.length q from by rw [J.out];exact Kd.C_take (m:=(a:Int).toNat) ((Kd.R_reads' (Kd.R_after (ok:=(fun k_=>(j k_∨w.heap.size≤k_))) (zR d) hg hat)).2.2) KL18.out));replace aj:=Aside0.mk ((show Kd.C Kd.string bb ba l.length l from by rw [ad.out,KA21.out];exact Kd.C_drop (m:=(a:Int).toNat) (c:=z) ((Kd.R_reads' (Kd.R_after (ok:=(fun k_=>(j k_∨w.heap.size≤k_))) (zR d) hg hat)).2.2) KL21.out ((Kd.R_reads' (Kd.R_after (ok:=(fun k_=>(j k_∨w.heap.size≤k_))) (zR d) hg hat)).2.1)));replace d:=Aside0.mk (Kd.R_after (ok:=(fun k_=>(j k_∨w.heap.size≤k_))) (zR d) hg hat);have a0:=Aside0.mk (ho);clear ah ho hb hg hat));go_ret;exact ⟨_,zW,by (with_reducible repeat (first | apply Kd.R_alloc | apply Kd.R_drewN | apply Kd.R_drew));exact Kd.R_mono a0.out (fun _ hk=>hk.1),zB,(zK HK)⟩
  ·rw [if_neg c5] at H;exact absurd H (by simp)
 ·obtain ⟨F,ak⟩:=zy (α:=List ByteArray) (([]:List ByteArray));replace H:(if 0≤a then (if a≤(g.length:Int) then ((some (g.take (a:Int).toNat:List ByteArray)).bind fun t=>(if F.length+t.length < 8796093022208 then ((some (F++t:List ByteArray)).bind fun y=>(if y.length < 8796093022208 then ((some (y++[D]:List ByteArray)).bind fun u=>((some (g.drop (a:Int).toNat:List ByteArray)).bind fun o=>(if u.length+o.length < 8796093022208 then (some (u++o)) else (none)))) else (none))) else (none))) else (none)) else (none))=some r:=zY ak H;have aI:=Aside0.mk ak;clear ak;replace H:=zen H;obtain ⟨bM,bN,H⟩:=H;replace H:=zen H;obtain ⟨bO,bP,H⟩:=H;obtain ⟨t,al⟩:=zy (α:=List ByteArray) (g.take (a:Int).toNat);replace H:(if F.length+t.length < 8796093022208 then ((some (F++t:List ByteArray)).bind fun y=>(if y.length < 8796093022208 then ((some (y++[D]:List ByteArray)).bind fun u=>((some (g.drop (a:Int).toNat:List ByteArray)).bind fun o=>(if u.length+o.length < 8796093022208 then (some (u++o)) else (none)))) else (none))) else (none))=some r:=zY al H;have O:=Aside0.mk al;clear al;replace H:=zan H;obtain ⟨a2,H⟩:=H;obtain ⟨y,am⟩:=zy (α:=List ByteArray) (F++t);replace H:(if y.length < 8796093022208 then ((some (y++[D]:List ByteArray)).bind fun u=>((some (g.drop (a:Int).toNat:List ByteArray)).bind fun o=>(if u.length+o.length < 8796093022208 then (some (u++o)) else (none)))) else (none))=some r:=zY am H;have a3:=Aside0.mk am;clear am;replace H:=zan H;obtain ⟨a4,H⟩:=H;obtain ⟨u,an⟩:=zy (α:=List ByteArray) (y++[D]);replace H:((some (g.drop (a:Int).toNat:List ByteArray)).bind fun o=>(if u.length+o.length < 8796093022208 then (some (u++o)) else (none)))=some r:=zY an H;have a5:=Aside0.mk an;clear an;have bQ:=eq_true (zD:0≤a);have bR:=eq_true (zD:a≤(g.length:Int));obtain ⟨o,ao⟩:=zy (α:=List ByteArray) (g.drop (a:Int).toNat);replace H:(if u.length+o.length < 8796093022208 then (some (u++o)) else (none))=some r:=zY ao H;have ap:=Aside0.mk ao;clear ao;replace H:=zan H;obtain ⟨a6,H⟩:=H;obtain ⟨br,aq⟩:=zy (α:=List ByteArray) (u++o);replace H:(some br)=some r:=zY aq H;have a7:=Aside0.mk aq;clear aq;obtain rfl:=Option.some.inj H;obtain ⟨A,B,bs⟩:=Kd.R_slice d.out;subst bs;go_enter Tryz.func68,Tryz.ntmps68;go_wp2_with (first | ((with_reducible refine zgc 93 ?_);refine zGL 9 Tryz.func93 #[.slice A g.length B,.string D] ?_;(with_reducible refine (g17Spot.calls k _ _ g D a _ ?side1 ?side2 A3.out).mono ?_);(case side1=>repeat (first | exact (Kd.R_reads' d.out).2.2 | (with_reducible refine Kd.C_alloc ?_ _) | (with_reducible refine Kd.C_drewN ?_ _) | (with_reducible refine Kd.C_drew ?_)));(case side2=>exact (Kd.R_reads' d.out).2.1);rintro e w' ⟨rfl,⟨nd,rfl⟩⟩;refine ⟨_,rfl,?_⟩) | ((with_reducible refine zgd 23 ?_);refine Kd.R_lit Kd.string _ 9 ?hg (N:=23) ?hd (xs:=([]:List ByteArray)) (inner:=[]) (ok:=fun _=>True) (okp:=fun _=>True) ?hr ?hp (fun _ hk=>hk) trivial (Below.refl _ _) (Nat.le_refl _) (by simp) ?_;(case hd=>rfl);(case hg=>rfl);(case hr=>first | (go_simp;done) | (go_simp;rfl));(case hp=>exact (Reps.none _ _));intro bt b5 U hb hg_ hnew_;clear hg_ hnew_;(first | rw [← aI.out] at U | (simp only [Int.reduceToNat] at U;rw [← aI.out] at U));have ar:=Aside0.mk (Kd.R_lower (Kd.R_new' (Kd.R_newM (M:=fun k_=>(j k_∨w.heap.size≤k_)) U (zK1 HK) (fun k_ h_=>.inr h_)) (Kd.R_lt (zR d))) (below_size zB));replace d:=Aside0.mk (Kd.R_elder' (zR d) (Kd.R_base U) hb);replace HK:=zkk HK hb;replace HB:=zbs HB hb;clear hb U;have aN:(a:Int)≤((g.length:Int):Int):=zD;obtain ⟨b1,hi033,_,hsz33,_⟩:=info_parts info9;have hroom33:g.length≤B:=(Kd.R_reads' d.out).2.1;have hC33:Kd.C Kd.string _ A g.length g:=(Kd.R_reads' d.out).2.2;have hcut33:=cut_to (P:=Tryz.prog) 27 9 .i64 Tryz.underlying27 hi033 A g.length B a (zD) aN hroom33;have aD:=Kd.C_take (m:=(a:Int).toNat) hC33 (by omega);have aE:t.length=(a:Int).toNat:=(by rw [O.out,List.length_take];omega);rw [← O.out] at aD;rw [← aE] at hcut33;have Q:=Aside0.mk aD;have bS:=Aside0.mk (show t.length≤B from by omega);clear aD hC33 hroom33 hi033 hsz33;have KY33:=Aside0.mk aE;clear aE;have KL33:=Aside0.mk (show (a:Int).toNat≤g.length from by omega);replace aN:=eq_true aN) | ((with_reducible refine gate_builtin (b:=.append) (xs:=#[.tmp 23,.tmp 26]) rfl ?_);at_builtin;refine Kd.R_append_rows Kd.string (w0:=w0) w0.heap.size rfl (.tmp 23) (.tmp 26) 27 9 (.string ⟨#[]⟩) 16 rfl Tryz.underlying27 info9 rfl (by decide) (by omega) bt F t _ _ _ (fun k_=>(j k_∨w.heap.size≤k_)∧some k_≠(.slice A g.length B:Value).ownBlock) (fun _=>False) rfl rfl ?aO ?aR (fun _ _ h=>h) (fun _ h=>h.elim) ?aF ?aB ?aS ?aL ?_;(case aR=>repeat (first | exact (by repeat (first | (with_reducible exact Q.out) | (with_reducible refine Kd.C_alloc ?_ _) | (with_reducible refine Kd.C_drewN ?_ _) | (with_reducible refine Kd.C_drew ?_) | exact Q.out)) | (with_reducible refine Kd.C_alloc ?_ _) | (with_reducible refine Kd.C_drewN ?_ _) | (with_reducible refine Kd.C_drew ?_)));(case aB=>exact zB);(case aF=>exact (fun k_ hk=>⟨(.inr (Nat.le_trans (zK1 HK) hk)),Kd.fresh' (Kd.R_lt (zR d)) k_ hk⟩));(case aO=>exact (by (with_reducible repeat (first | apply Kd.R_alloc | apply Kd.R_drewN | apply Kd.R_drew));exact Kd.R_mono ar.out (fun _ hk=>⟨hk.1.1,hk.2⟩)));(case aS=>exact (below_size zB));(case aL=>have:=a2.out;omega);intro bu bF ho hb hg hat;rw [← a3.out] at ho;replace HB:=Aside0.mk (hb);replace HK:=Aside0.mk (Kept.of_grown (S:=(fun k_=>j k_)) hg (zK HK) (fun k_ e_=>(ar.out.1 k_ e_).1.1));replace Q:=Aside0.mk ((show Kd.C Kd.string bF A t.length t from by rw [O.out];exact Kd.C_take (m:=(a:Int).toNat) ((Kd.R_reads' (Kd.R_after (ok:=(fun k_=>(j k_∨w.heap.size≤k_))) (zR d) hg hat)).2.2) KL33.out));replace d:=Aside0.mk (Kd.R_after (ok:=(fun k_=>(j k_∨w.heap.size≤k_))) (zR d) hg hat);have au:=Aside0.mk (ho);clear ar ho hb hg hat) | ((with_reducible refine gate_builtin (b:=.append) (xs:=#[.tmp 28,.tmp 30]) rfl ?_);at_builtin;refine Kd.R_append Kd.string (w0:=w0) w0.heap.size rfl (.tmp 28) (.tmp 30) 27 9 (.string ⟨#[]⟩) 16 rfl Tryz.underlying27 info9 rfl (by decide) (by omega) bu y D [.string D] (fun k_=>(j k_∨w.heap.size≤k_)∧some k_≠(.slice A g.length B:Value).ownBlock) (fun _=>False) rfl rfl ?aP (fun _ hk=>hk.elim) ?aF ?aO ?aB ?aS ?aL ?_;(case aP=>exact rfl);(case aB=>exact zB);(case aF=>exact (fun k_ hk=>⟨(.inr (Nat.le_trans (zK1 HK) hk)),Kd.fresh' (Kd.R_lt (zR d)) k_ hk⟩));(case aO=>exact (zR au));(case aS=>exact (below_size zB));(case aL=>have:=a4.out;omega);intro bv bG ho hb hg hat;rw [← a5.out] at ho;replace HB:=Aside0.mk (hb);replace HK:=Aside0.mk (Kept.of_grown (S:=(fun k_=>j k_)) hg (zK HK) (fun k_ e_=>(au.out.1 k_ e_).1));replace Q:=Aside0.mk ((show Kd.C Kd.string bG A t.length t from by rw [O.out];exact Kd.C_take (m:=(a:Int).toNat) ((Kd.R_reads' (Kd.R_after (ok:=(fun k_=>(j k_∨w.heap.size≤k_))) (zR d) hg hat)).2.2) KL33.out));replace d:=Aside0.mk (Kd.R_after (ok:=(fun k_=>(j k_∨w.heap.size≤k_))) (zR d) hg hat);have av:=Aside0.mk (ho);clear au ho hb hg hat;have aQ:(a:Int)≤((g.length:Int):Int):=zD;obtain ⟨b2,hi036,_,hsz36,_⟩:=info_parts info9;have hroom36:g.length≤B:=(Kd.R_reads' d.out).2.1;have hC36:Kd.C Kd.string _ A g.length g:=(Kd.R_reads' d.out).2.2;have bw:(0:Int)≤(a:Int):=zD;have hcut36:=cut_from (P:=Tryz.prog) 27 9 .i64 Tryz.underlying27 hi036 1 hsz36 A g.length B a bw aQ;have X:=Kd.C_drop (m:=(a:Int).toNat) (c:=B) hC36 (by omega) hroom36;obtain ⟨bc,hA36⟩:∃ A1,A1=(if B=(a:Int).toNat then A else (A:Option Addr).map (·.add ((a:Int).toNat*1))):=⟨_,rfl⟩;obtain ⟨bH,aG⟩:∃ c1,c1=B - (a:Int).toNat:=⟨_,rfl⟩;have aw:o.length=g.length - (a:Int).toNat:=(by rw [ap.out,List.length_drop]<;>omega);rw [show (g).drop (a:Int).toNat=o from ap.out.symm] at X;replace X:Kd.C Kd.string _ bc o.length o:=(by rw [hA36];exact X);rw [← aw,← hA36,← aG] at hcut36;have ax:=Aside0.mk X;have bT:=Aside0.mk (show o.length≤bH from by rw [aw,aG];exact Nat.sub_le_sub_right hroom36 _);clear X hC36 hroom36 hi036 hsz36 aG;have KY36:=Aside0.mk aw;have KA36:=Aside0.mk hA36;clear aw hA36;have KL36:=Aside0.mk (show (a:Int).toNat≤g.length from by omega);replace aQ:=eq_true aQ) | ((with_reducible refine gate_builtin (b:=.append) (xs:=#[.tmp 32,.tmp 35]) rfl ?_);at_builtin;refine Kd.R_append_rows Kd.string (w0:=w0) w0.heap.size rfl (.tmp 32) (.tmp 35) 27 9 (.string ⟨#[]⟩) 16 rfl Tryz.underlying27 info9 rfl (by decide) (by omega) bv u o _ _ _ (fun k_=>(j k_∨w.heap.size≤k_)∧some k_≠(.slice A g.length B:Value).ownBlock) (fun _=>False) rfl rfl ?aO ?aR (fun _ _ h=>h) (fun _ h=>h.elim) ?aF ?aB ?aS ?aL ?_;(case aR=>repeat (first | exact (by repeat (first | (with_reducible exact ax.out) | (with_reducible refine Kd.C_alloc ?_ _) | (with_reducible refine Kd.C_drewN ?_ _) | (with_reducible refine Kd.C_drew ?_) | exact ax.out)) | (with_reducible refine Kd.C_alloc ?_ _) | (with_reducible refine Kd.C_drewN ?_ _) | (with_reducible refine Kd.C_drew ?_)));(case aB=>exact zB);(case aF=>exact (fun k_ hk=>⟨(.inr (Nat.le_trans (zK1 HK) hk)),Kd.fresh' (Kd.R_lt (zR d)) k_ hk⟩));(case aO=>exact (zR av));(case aS=>exact (below_size zB));(case aL=>have:=a6.out;omega);intro b3 bd ho hb hg hat;rw [← a7.out] at ho;replace HB:=Aside0.mk (hb);replace HK:=Aside0.mk (Kept.of_grown (S:=(fun k_=>j k_)) hg (zK HK) (fun k_ e_=>(av.out.1 k_ e_).1));replace Q:=Aside0.mk ((show Kd.C Kd.string bd A t.length t from by rw [O.out];exact Kd.C_take (m:=(a:Int).toNat) ((Kd.R_reads' (Kd.R_after (ok:=(fun k_=>(j k_∨w.heap.size≤k_))) (zR d) hg hat)).2.2) KL33.out));replace ax:=Aside0.mk ((show Kd.C Kd.string bd bc o.length o from by rw [ap.out,KA36.out];exact Kd.C_drop (m:=(a:Int).toNat) (c:=B) ((Kd.R_reads' (Kd.R_after (ok:=(fun k_=>(j k_∨w.heap.size≤k_))) (zR d) hg hat)).2.2) KL36.out ((Kd.R_reads' (Kd.R_after (ok:=(fun k_=>(j k_∨w.heap.size≤k_))) (zR d) hg hat)).2.1)));replace d:=Aside0.mk (Kd.R_after (ok:=(fun k_=>(j k_∨w.heap.size≤k_))) (zR d) hg hat);have a8:=Aside0.mk (ho);clear av ho hb hg hat));go_ret;exact ⟨_,zW,by (with_reducible repeat (first | apply Kd.R_alloc | apply Kd.R_drewN | apply Kd.R_drew));exact Kd.R_mono a8.out (fun _ hk=>hk.1),zB,(zK HK)⟩
def g17Sorted.l0:Nat→List ByteArray→List ByteArray→Int→Option (List ByteArray)
 | 0,_,_,_=>none
 | k+1,d,g,a=>if a < (d.length:Int) then (if 0≤a then ((g17Insert.f k g (rdOf ByteArray.empty d a)).bind fun e=>(g17Sorted.l0 k d e (wrap64 (a+1)))) else (none)) else (some g)
def g17Sorted.f (k:Nat) (a:List ByteArray):Option (List ByteArray):=g17Sorted.l0 k a ([]:List ByteArray) 0
set_option maxHeartbeats 8000000 in
set_option maxRecDepth 100000 in
theorem g17Sorted.calls (k:Nat) (G:Option Addr) (I:Nat) (g:List ByteArray) (r:List ByteArray) (w:World) (y:Kd.C Kd.string w G g.length g) (z:g.length≤I) (h:g17Sorted.f k g=some r) :
  Calls Tryz.prog 43 #[.slice G g.length I] w fun e w'=>∃ A:Value,e=.returned (A)∧Kd.R Kd.string 9 w' w.heap.size (fun _=>True) A r∧Below w.heap.size w w':=by
 have J:=Aside0.mk y;have X:=Aside0.mk z;clear y z;have HB:=Aside0.mk (Below.refl w.heap.size w);have H:(g17Sorted.l0 k g ([]:List ByteArray) 0)=some r:=h;clear h;have H':=Aside0.mk H;clear H;go_enter Tryz.func43,Tryz.ntmps43;go_wp2;go_loopg [3,4] k (fun kq Q T w'=>∃ (d:List ByteArray) (a:Int),T=.int .i64 a∧Aside0 (g17Sorted.l0 kq g d a=some r)∧Aside0 (kq≤k)∧Aside0 (Kd.R Kd.string 9 w' w.heap.size (fun _=>True) Q d)∧Aside0 (Below w.heap.size w w'))
 case atStart=>exact ⟨(([]:List ByteArray)),(0),zE,H',⟨Nat.le_refl _⟩,⟨by first | exact Kd.R_nil _ _ _ _ _ | exact Kd.N_nil _ _ _ _ _ | exact Kd.V_nil _ _ _ _ _ | exact Kd.Q_nil _ _ _ _ _ | exact Kd.S_nil _ _ _ _ _⟩,⟨zB⟩⟩
 case round =>
  clear H';obtain ⟨d,a,rfl,HA,B,l,HB⟩:=hrel;cases gk with
  | zero=>exact absurd HA.out (by simp [g17Sorted.l0])
  | succ k1 =>
   have H:=HA.out;clear HA;simp only [g17Sorted.l0] at H;replace H:=zdd H;rcases H with ⟨E,H⟩ | ⟨E,H⟩
   ·by_cases v:0≤a
    ·rw [if_pos v] at H;have U:=decide_eq_true v;clear v;replace H:=zbd H;obtain ⟨s,V,H⟩:=H;have H':=Aside0.mk H;clear H;have o:0≤(a:Int):=zD;have q:a < (g.length:Int):=zD;obtain ⟨O,F,j⟩:=Kd.at_string J.out a o q;cases F;replace j:=zC j;replace o:=eq_true o;replace q:=eq_true q;obtain ⟨t,u,L⟩:=Kd.R_slice l.out;subst L;go_wp2_with (first | ((with_reducible refine zgc 68 ?_);refine zGL 16 Tryz.func68 #[.slice t d.length u,.string (rdOf ByteArray.empty g a)] ?_;(with_reducible refine (g17Insert.calls k1 (fun k_=>some k_=(.slice t d.length u:Value).ownBlock) (.slice t d.length u) d (rdOf ByteArray.empty g a) s w _ ?side1 ?side2 V.out).mono ?_);(case side1=>repeat (first | (with_reducible first | exact HB.out | apply below_alloc | apply pw_below_drewN | apply below_drew1) | exact HB.out));(case side2=>exact Kd.R_tight rfl l.out);rintro e Y ⟨W,rfl,D,hb,hkp⟩;refine ⟨_,rfl,?_⟩;have x:=Aside0.mk (Kd.R_mono (ok':=fun k_=>True) D (fun k_ hk_=>trivial));replace HB:=Aside0.mk (hb);clear l hb hkp D));go_roundg k1
     case measure=>have:=B.out;omega
     case rel=>exact ⟨(s),(wrap64 (a+1)),zE,H',⟨by have:=B.out;omega⟩,⟨(zR x)⟩,⟨zB⟩⟩
    ·rw [if_neg v] at H;exact absurd H (by simp)
   ·obtain rfl:=Option.some.inj H;go_wp2;go_ret;exact ⟨_,zW,(zR l),zB⟩
end Go.Proofs.YtninnmdpnoebaaaGreatDoor.PRa
end
section
namespace Go.Proofs.YtninnmdpnoebaaaGreatDoor.Hand
open Go.RowKit Go.Proofs.YtninnmdpnoebaaaGreatDoorW.PrintWords Go.Proofs.YtninnmdpnoebaaaGreatDoorW.PrintLast Go.Proofs.YtninnmdpnoebaaaGreatDoorW.PrintMore
open Go.Proofs.YtninnmdpnoebaaaGreatDoor.PRa
set_option linter.unusedVariables false
set_option linter.unusedSimpArgs false
theorem mid64 (lo hi:Nat) (h:lo≤hi) (hb:hi≤4611686018427387903):wrap64 (Int.tdiv (wrap64 ((lo:Int)+(hi:Int))) 2)=(((lo+hi) / 2:Nat):Int):=by
 have e0:wrap64 ((lo:Int)+(hi:Int))=((lo+hi:Nat):Int):=by rw [wrap64_id (by omega) (by omega)];omega
 have e:Int.tdiv ((lo+hi:Nat):Int) 2=(((lo+hi) / 2:Nat):Int):=rfl;rw [e0,e,wrap64_id (by omega) (by omega)]
theorem tl_iff {a b:ByteArray}:a.toList=b.toList↔a=b:=by
 rw [Lib.toList_data,Lib.toList_data];constructor
 ·intro h;have h2:a.data=b.data:=Array.ext' h;cases a;cases b;simp only at h2;rw [h2]
 ·intro h;rw [h]
theorem toList_beq (a b:ByteArray):(a.toList == b.toList)=decide (a=b):=by
 have:=tl_iff (a:=a) (b:=b);by_cases c:a=b
 ·subst c;simp
 ·have h:¬ a.toList=b.toList:=fun h=>c (this.1 h);simp [c,h]
theorem place_end (l:List S75) (id:ByteArray) (lo:Nat):(if (lo:Int) < (l.length:Int) then (if (0:Int)≤(lo:Int) then some ((lo:Int),((rd_T75 l (lo:Int)).f0.toList == id.toList)) else none) else some ((lo:Int),false))=some ((lo:Int),decide (lo < l.length∧(l.getD lo z75).f0=id)):=by
 have e:(rd_T75 l (lo:Int))=l.getD lo z75:=by simp [rd_T75]
 rw [e,toList_beq];by_cases c:lo < l.length
 ·rw [if_pos (by omega),if_pos (by omega)];by_cases c2:(l.getD lo z75).f0=id
  ·rw [decide_eq_true c2,decide_eq_true ⟨c,c2⟩]
  ·rw [decide_eq_false c2,decide_eq_false (fun h=>c2 h.2)]
 ·rw [if_neg (by omega),decide_eq_false (fun h=>c h.1)]
theorem place_l0 (l:List S75) (id:ByteArray) (hl:l.length≤4611686018427387903):∀ (n lo hi:Nat),hi - lo≤n→lo≤hi→hi≤l.length →
  g17Place.l0 (n+1) l id lo hi=some (((halveQ (fun t=>Op.bytesLess (l.getD t z75).f0.toList id.toList) n lo hi:Nat):Int),decide (halveQ (fun t=>Op.bytesLess (l.getD t z75).f0.toList id.toList) n lo hi < l.length∧(l.getD (halveQ (fun t=>Op.bytesLess (l.getD t z75).f0.toList id.toList) n lo hi) z75).f0=id)):=by
 intro n
 induction n with
 | zero =>
  intro lo hi h1 h2 h3;have:lo=hi:=by omega
  subst this;rw [g17Place.l0,halveQ,if_neg (by omega)];exact place_end l id lo
 | succ n ih =>
  intro lo hi h1 h2 h3;rw [g17Place.l0,halveQ];by_cases c:lo < hi
  ·rw [if_pos (by omega),if_pos c,mid64 lo hi h2 (by omega),if_pos (by omega),if_pos (by omega)];have hm:lo≤(lo+hi) / 2∧(lo+hi) / 2 < hi:=by omega
   generalize (lo+hi) / 2=m at *;have e:(rd_T75 l (m:Int))=l.getD m z75:=by simp [rd_T75]
   rw [e];by_cases c2:Op.bytesLess (l.getD m z75).f0.toList id.toList=true
   ·rw [if_pos c2,if_pos c2,wrap64_id (by omega) (by omega),show ((m:Int)+1)=((m+1:Nat):Int) by omega];exact ih (m+1) hi (by omega) (by omega) h3
   ·rw [if_neg c2,if_neg c2];exact ih lo m (by omega) (by omega) (by omega)
  ·rw [if_neg (by omega),if_neg c];exact place_end l id lo
theorem place_law (l:List S75) (id:ByteArray) (hl:l.length≤4611686018427387903):g17Place.f (l.length+1) l id=some (((placeQ l id:Nat):Int),isQ l id):=by
 unfold g17Place.f isQ placeQ;exact place_l0 l id hl l.length 0 l.length (by omega) (Nat.zero_le _) (Nat.le_refl _)
theorem get17_law (l:List S75) (id:ByteArray) (hl:l.length≤4611686018427387903):g17Get.f (l.length+1) l id=some ((getQ l id).1.1,(getQ l id).1.2,(getQ l id).2):=by
 unfold g17Get.f getQ;rw [place_law l id hl];simp only [Option.bind_some];by_cases hi:isQ l id=true
 ·have hlt:=isQ_lt hi;have e:(rd_T75 l (placeQ l id:Nat))=l.getD (placeQ l id) z75:=by simp [rd_T75]
  rw [if_pos hi,if_pos hi,if_pos (by omega),if_pos (by omega),e]
 ·rw [if_neg hi,if_neg hi]
theorem get17_any (A:Option Addr) (c:Nat) (l:List S75) (id:ByteArray) (w:World) (hC:Kd.C k75 w A l.length l) (hl:l.length≤4611686018427387903) (hc:l.length≤c) :
  Calls Tryz.prog 69 #[.agg #[.slice A l.length c],.string id] w fun e w'=>e=.returned (.tuple #[.agg #[.int .i64 (getQ l id).1.1,.string (getQ l id).1.2],.int .i64 (getQ l id).2])∧Below w.heap.size w w' :=
 g17Get.calls (l.length+1) A c l id _ _ _ w hC hc (get17_law l id hl)
theorem in_l0 (l:List ByteArray) (s:ByteArray) (hl:l.length≤4611686018427387903):∀ (n i:Nat),l.length - i≤n→i≤l.length→g17In.l0 (n+1) l s (i:Int)=some (Lib.containsS (l.drop i) s):=by
 intro n
 induction n with
 | zero =>
  intro i h1 h2;have:i=l.length:=by omega
  subst this;rw [g17In.l0,if_neg (by omega),List.drop_length];rfl
 | succ n ih =>
  intro i h1 h2;rw [g17In.l0];by_cases c:i < l.length
  ·have e:rdOf ByteArray.empty l (i:Int)=l[i]:=by simp [rdOf,c]
   rw [if_pos (by omega),if_pos (by omega),e,List.drop_eq_getElem_cons c];by_cases c2:l[i]=s
   ·rw [if_pos (by rw [c2])];congr 1;exact ((Lib.containsS_iff _ _).2 (by rw [c2];exact List.mem_cons_self)).symm
   ·rw [if_neg (fun h=>c2 (tl_iff.1 h)),wrap64_id (by omega) (by omega),show ((i:Int)+1)=((i+1:Nat):Int) by omega,ih (i+1) (by omega) (by omega)];congr 1;apply Bool.eq_iff_iff.2;rw [Lib.containsS_iff,Lib.containsS_iff,List.mem_cons];exact ⟨.inr,fun h=>h.resolve_left (fun h=>c2 h.symm)⟩
  ·rw [if_neg (by omega),List.drop_eq_nil_of_le (by omega)];rfl
theorem in17_any (A:Option Addr) (c:Nat) (l:List ByteArray) (s:ByteArray) (w:World) (hC:Kd.string.C w A l.length l) (hl:l.length≤4611686018427387903) (hc:l.length≤c) :
  Calls Tryz.prog 28 #[.slice A l.length c,.string s] w fun e w'=>e=.returned (.bool (Lib.containsS l s))∧Drawn0 w w' :=
 g17In.calls (l.length+1) A c l s _ w hC hc (in_l0 l s hl l.length 0 (by omega) (Nat.zero_le _))
end Go.Proofs.YtninnmdpnoebaaaGreatDoor.Hand
end
