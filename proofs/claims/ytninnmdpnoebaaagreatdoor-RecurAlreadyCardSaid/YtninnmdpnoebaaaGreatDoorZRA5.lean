/- The law RecurAlready: what its proof takes, part 6 of 8 (packed by wip/gen/pack.py: each section was a text of its own). -/
import Derived.Test.YtninnmdpnoebaaaGreatDoorZRA1
import Derived.Test.YtninnmdpnoebaaaGreatDoorZRA4
import Derived.Test.YtninnmdpnoebaaaGreatDoorZRA2
import Derived.Test.YtninnmdpnoebaaaGreatDoorZRA3
import Derived.Deep.RegionHeldLaw
import Derived.LoopN
import Derived.Test.YtninnmdpnoebaaaGreatDoorZRA0
import Derived.Shelf.SlGeneric
import Derived.Shelf.SlIter.Nil
import Derived.Shelf.SortM.Plain
import Derived.Shelf.SortM.SortNone
import Derived.Ground.GgzProg
import Derived.Ground.SlgmProg
import Derived.Test.YtninnmdpnoebaaaGreatDoorProg
section
namespace Go.Proofs.YtninnmdpnoebaaaGreatDoor.PRa
open Go.Proofs.YtninnmdpnoebaaaGreatDoor.Sq Go.Proofs.YtninnmdpnoebaaaGreatDoor.Hand Go.RowKit Go.Proofs.YtninnmdpnoebaaaGreatDoorW.PrintWords Go.Proofs.YtninnmdpnoebaaaGreatDoorW.PrintLast Go.Proofs.YtninnmdpnoebaaaGreatDoorW.PrintMore
attribute [local go_sem] max2_int min2_int max_two min_two max_three min_three max_four min_four
set_option linter.unusedVariables false
set_option linter.unusedSimpArgs false
def g17Small.l0:Nat→Int→List (S75)→Option (Bool)
 | 0,_,_=>none
 | k+1,b,a=>if b < (a.length:Int) then (if 0≤b then (if (((rd_T75 a b).f2).size:Int) > 4000 then (some false) else (g17Small.l0 k (wrap64 (b+1)) a)) else (none)) else ((g17Right.f k a).bind fun c=>(if c=true then ((g17Calm.f k a).bind fun d=>(some d)) else (some false)))
def g17Small.f (k:Nat) (a:List (S75)):Option (Bool):=if (a.length:Int) > 80 then (some false) else (g17Small.l0 k 0 a)
set_option maxHeartbeats 8000000 in
set_option maxRecDepth 100000 in
theorem g17Small.calls (k:Nat) (j:Option Addr) (l:Nat) (a:List (S75)) (r:Bool) (w:World) (t:Kd.C k75 w j a.length a) (u:a.length≤l) (h:g17Small.f k a=some r) :
  Calls Tryz.prog 16 #[.agg #[.slice j a.length l]] w fun e w'=>e=.returned (.bool r)∧Below w.heap.size w w':=by
 have V:=Tryz.underlying24;have o:=Aside0.mk t;have p:=Aside0.mk u;clear t u;have HB:=Aside0.mk (Below.refl w.heap.size w);have H:(if (a.length:Int) > 80 then (some false) else (g17Small.l0 k 0 a))=some r:=h;clear h;replace H:=zdg H;rcases H with ⟨A,y,H⟩ | ⟨A,y,H⟩
 ·have z:decide (80 < a.length)=true:=decide_eq_true (by omega);clear A;obtain rfl:=Option.some.inj H;go_enter Tryz.func16,Tryz.ntmps16;go_wp2_with (first | ((with_reducible refine zgd 1 ?_);refine zBx 1 #[.slice j a.length l] 24 ?_;intro v hg w3 hbox hb;have b:=Aside0.mk (hbox);have B:=zGE HB hg;have D:=zGE HB hg;replace HB:=zbs HB hb;clear hb hbox hg;have R:=zF1 b));go_ret;exact ⟨zW,zB⟩
 ·have z:decide (80 < a.length)=false:=decide_eq_false (by omega);clear A;have H':=Aside0.mk H;clear H;go_enter Tryz.func16,Tryz.ntmps16;go_wp2_with (first | ((with_reducible refine zgd 1 ?_);refine zBx 1 #[.slice j a.length l] 24 ?_;intro v hg w5 hbox hb;have b:=Aside0.mk (hbox);have B:=zGE HB hg;have D:=zGE HB hg;replace HB:=zbs HB hb;clear hb hbox hg;have T:=zF1 b));go_loopg [3] k (fun kq W w'=>∃ (c:Int),W=.int .i64 c∧Aside0 (g17Small.l0 kq c a=some r)∧Aside0 (kq≤k)∧Aside0 (w'.heap[v]? = some (.cells #[(.slice j a.length l)] 24 (0,0)))∧Aside0 (Below w.heap.size w w'))
  case atStart=>exact ⟨(0),zE,H',⟨Nat.le_refl _⟩,⟨(zb b)⟩,⟨zB⟩⟩
  case round =>
   clear H' y z T;obtain ⟨c,rfl,HA,G,b,HB⟩:=hrel;cases gk with
   | zero=>exact absurd HA.out (by simp [g17Small.l0])
   | succ k1 =>
    have H:=HA.out;clear HA;simp only [g17Small.l0] at H;replace H:=zdd H;rcases H with ⟨L,H⟩ | ⟨L,H⟩
    ·by_cases E:0≤c
     ·rw [if_pos E] at H;have X:=decide_eq_true E;clear E;replace H:=zdg H;rcases H with ⟨M,N,H⟩ | ⟨M,N,H⟩
      ·have O:decide (4000 < ((rd_T75 a c).f2).size)=true:=decide_eq_true (by omega);clear M;obtain rfl:=Option.some.inj H;have Y:=zF1 b;have m:0≤(c:Int):=zD;have n:c < (a.length:Int):=zD;obtain ⟨F,q,d,g,i⟩:=at_T75 o.out c m n;cases q;replace d:=zC d;replace g:=zC g;replace i:=zC i;replace m:=eq_true m;replace n:=eq_true n;go_wp2;go_ret;exact ⟨zW,zB⟩
      ·have O:decide (4000 < ((rd_T75 a c).f2).size)=false:=decide_eq_false (by omega);clear M;have H':=Aside0.mk H;clear H;have Z:=zF1 b;have m:0≤(c:Int):=zD;have n:c < (a.length:Int):=zD;obtain ⟨F,q,d,g,i⟩:=at_T75 o.out c m n;cases q;replace d:=zC d;replace g:=zC g;replace i:=zC i;replace m:=eq_true m;replace n:=eq_true n;go_wp2;go_roundg k1
       case measure=>have:=G.out;omega
       case rel=>exact ⟨(wrap64 (c+1)),zE,H',⟨by have:=G.out;omega⟩,⟨(zb b)⟩,⟨zB⟩⟩
     ·rw [if_neg E] at H;exact absurd H (by simp)
    ·replace H:=zbd H;obtain ⟨Q,I,H⟩:=H;by_cases x:Q=true
     ·subst x;have H1:((g17Calm.f k1 a).bind fun s=>(some s))=some r:=by rw [if_pos rfl] at H;exact H
      clear H;have H:=H1;clear H1;replace H:=zbd H;obtain ⟨s,U,H⟩:=H;obtain rfl:=Option.some.inj H;have aa:=zF1 b;go_wp2_with (first | ((with_reducible refine zgc 17 ?_);refine zGL 24 Tryz.func17 #[.agg #[.slice j a.length l]] ?_;(with_reducible refine (g17Right.calls k1 _ _ a true _ ?side1 ?side2 I.out).mono ?_);(case side1=>repeat (first | exact (Kd.C_below o.out HB.out) | (with_reducible refine Kd.C_alloc ?_ _) | (with_reducible refine Kd.C_drewN ?_ _) | (with_reducible refine Kd.C_drew ?_)));(case side2=>exact p.out);rintro e ad ⟨rfl,hb⟩;refine ⟨_,rfl,?_⟩;replace b:=zkb b hb;replace HB:=zbs HB hb;clear hb;have ab:=zF1 b) | (go_at_call 29;(with_reducible refine (g17Calm.calls k1 _ _ a s _ ?side1 ?side2 U.out).mono ?_);(case side1=>repeat (first | exact (Kd.C_below o.out HB.out) | (with_reducible refine Kd.C_alloc ?_ _) | (with_reducible refine Kd.C_drewN ?_ _) | (with_reducible refine Kd.C_drew ?_)));(case side2=>exact p.out);rintro e ae ⟨rfl,hb⟩;replace b:=zkb b hb;replace HB:=zbs HB hb;clear hb));go_ret;exact ⟨zW,zB⟩
     ·replace x:=Bool.eq_false_iff.mpr x;subst x;have H1:(some false)=some r:=by rw [if_neg (show ¬ (false=true) by decide)] at H;exact H
      clear H;have H:=H1;clear H1;obtain rfl:=Option.some.inj H;have ac:=zF1 b;go_wp2_with (first | ((with_reducible refine zgc 17 ?_);refine zGL 24 Tryz.func17 #[.agg #[.slice j a.length l]] ?_;(with_reducible refine (g17Right.calls k1 _ _ a false _ ?side1 ?side2 I.out).mono ?_);(case side1=>repeat (first | exact (Kd.C_below o.out HB.out) | (with_reducible refine Kd.C_alloc ?_ _) | (with_reducible refine Kd.C_drewN ?_ _) | (with_reducible refine Kd.C_drew ?_)));(case side2=>exact p.out);rintro e af ⟨rfl,hb⟩;refine ⟨_,rfl,?_⟩;replace b:=zkb b hb;replace HB:=zbs HB hb;clear hb));go_ret;exact ⟨zW,zB⟩
def g22Few.f (k:Nat) (a:List (S75)) (e:List (S263)) (g:List (S266)) (b:List ByteArray):Option (Bool):=if (a.length:Int)≤30 then (if (b.length:Int)≤30 then ((g17Small.f k a).bind fun c=>(if c=true then ((g17Right.f k a).bind fun d=>(some d)) else (some false))) else (some false)) else (some false)
set_option maxHeartbeats 8000000 in
set_option maxRecDepth 100000 in
theorem g22Few.calls (k:Nat) (i:Option Addr) (j:Nat) (a:List (S75)) (l:Option Addr) (m:Nat) (d:List (S263)) (n:Option Addr) (o:Nat) (g:List (S266)) (p:Option Addr) (q:Nat) (c:List ByteArray) (r:Bool) (w:World) (A:Kd.C k75 w i a.length a) (B:a.length≤j) (D:Kd.C k263 w l d.length d) (E:d.length≤m) (F:Kd.C k266 w n g.length g) (G:g.length≤o) (I:Kd.C Kd.string w p c.length c) (J:c.length≤q) (h:g22Few.f k a d g c=some r) :
  Calls Tryz.prog 8 #[.agg #[.slice i a.length j,.slice l d.length m,.slice n g.length o,.slice p c.length q]] w fun e w'=>e=.returned (.bool r)∧Below w.heap.size w w':=by
 have ac:=Tryz.underlying29;have ad:=Tryz.underlying24;have t:=Aside0.mk A;have u:=Aside0.mk B;clear A B;have W:=Aside0.mk D;have X:=Aside0.mk E;clear D E;have Y:=Aside0.mk F;have Z:=Aside0.mk G;clear F G;have aa:=Aside0.mk I;have ab:=Aside0.mk J;clear I J;have HB:=Aside0.mk (Below.refl w.heap.size w);have H:(if (a.length:Int)≤30 then (if (c.length:Int)≤30 then ((g17Small.f k a).bind fun z=>(if z=true then ((g17Right.f k a).bind fun s=>(some s)) else (some false))) else (some false)) else (some false))=some r:=h;clear h;replace H:=zdg H;rcases H with ⟨N,O,H⟩ | ⟨N,O,H⟩
 ·have Q:decide (a.length≤30)=true:=decide_eq_true (by omega);clear N;replace H:=zdg H;rcases H with ⟨R,T,H⟩ | ⟨R,T,H⟩
  ·have U:decide (c.length≤30)=true:=decide_eq_true (by omega);clear R;replace H:=zbd H;obtain ⟨z,V,H⟩:=H;by_cases L:z=true
   ·subst L;have H1:((g17Right.f k a).bind fun s=>(some s))=some r:=by rw [if_pos rfl] at H;exact H
    clear H;have H:=H1;clear H1;replace H:=zbd H;obtain ⟨s,A6,H⟩:=H;obtain rfl:=Option.some.inj H;go_enter Tryz.func8,Tryz.ntmps8;go_wp2_with (first | ((with_reducible refine zgd 1 ?_);(try (refine gate_guard (by rfl) ?_;dsimp only));refine zBx 1 #[.slice i a.length j,.slice l d.length m,.slice n g.length o,.slice p c.length q] 29 ?_;intro v hg w7 hbox hb;have b:=Aside0.mk (hbox);have x:=zGE HB hg;have y:=zGE HB hg;replace HB:=zbs HB hb;clear hb hbox hg;have aj:=zF4 b) | (go_at_call 16;(with_reducible refine (g17Small.calls k _ _ a true _ ?side1 ?side2 V.out).mono ?_);(case side1=>repeat (first | exact (Kd.C_below t.out HB.out) | (with_reducible refine Kd.C_alloc ?_ _) | (with_reducible refine Kd.C_drewN ?_ _) | (with_reducible refine Kd.C_drew ?_)));(case side2=>exact u.out);rintro e w9 ⟨rfl,hb⟩;replace b:=zkb b hb;replace HB:=zbs HB hb;clear hb;have af:=zF4 b) | (go_at_call 17;(with_reducible refine (g17Right.calls k _ _ a s _ ?side1 ?side2 A6.out).mono ?_);(case side1=>repeat (first | exact (Kd.C_below t.out HB.out) | (with_reducible refine Kd.C_alloc ?_ _) | (with_reducible refine Kd.C_drewN ?_ _) | (with_reducible refine Kd.C_drew ?_)));(case side2=>exact u.out);rintro e ak ⟨rfl,hb⟩;replace b:=zkb b hb;replace HB:=zbs HB hb;clear hb));go_ret;exact ⟨zW,zB⟩
   ·replace L:=Bool.eq_false_iff.mpr L;subst L;have H1:(some false)=some r:=by rw [if_neg (show ¬ (false=true) by decide)] at H;exact H
    clear H;have H:=H1;clear H1;obtain rfl:=Option.some.inj H;go_enter Tryz.func8,Tryz.ntmps8;go_wp2_with (first | ((with_reducible refine zgd 1 ?_);(try (refine gate_guard (by rfl) ?_;dsimp only));refine zBx 1 #[.slice i a.length j,.slice l d.length m,.slice n g.length o,.slice p c.length q] 29 ?_;intro v hg al hbox hb;have b:=Aside0.mk (hbox);have x:=zGE HB hg;have y:=zGE HB hg;replace HB:=zbs HB hb;clear hb hbox hg;have ag:=zF4 b) | (go_at_call 16;(with_reducible refine (g17Small.calls k _ _ a false _ ?side1 ?side2 V.out).mono ?_);(case side1=>repeat (first | exact (Kd.C_below t.out HB.out) | (with_reducible refine Kd.C_alloc ?_ _) | (with_reducible refine Kd.C_drewN ?_ _) | (with_reducible refine Kd.C_drew ?_)));(case side2=>exact u.out);rintro e am ⟨rfl,hb⟩;replace b:=zkb b hb;replace HB:=zbs HB hb;clear hb));go_ret;exact ⟨zW,zB⟩
  ·have U:decide (c.length≤30)=false:=decide_eq_false (by omega);clear R;obtain rfl:=Option.some.inj H;go_enter Tryz.func8,Tryz.ntmps8;go_wp2_with (first | ((with_reducible refine zgd 1 ?_);(try (refine gate_guard (by rfl) ?_;dsimp only));refine zBx 1 #[.slice i a.length j,.slice l d.length m,.slice n g.length o,.slice p c.length q] 29 ?_;intro v hg an hbox hb;have b:=Aside0.mk (hbox);have x:=zGE HB hg;have y:=zGE HB hg;replace HB:=zbs HB hb;clear hb hbox hg;have ah:=zF4 b));go_ret;exact ⟨zW,zB⟩
 ·have Q:decide (a.length≤30)=false:=decide_eq_false (by omega);clear N;obtain rfl:=Option.some.inj H;go_enter Tryz.func8,Tryz.ntmps8;go_wp2_with (first | ((with_reducible refine zgd 1 ?_);(try (refine gate_guard (by rfl) ?_;dsimp only));refine zBx 1 #[.slice i a.length j,.slice l d.length m,.slice n g.length o,.slice p c.length q] 29 ?_;intro v hg ao hbox hb;have b:=Aside0.mk (hbox);have x:=zGE HB hg;have y:=zGE HB hg;replace HB:=zbs HB hb;clear hb hbox hg;have ai:=zF4 b));go_ret;exact ⟨zW,zB⟩
def graftagelaw24_few.f (k:Nat) (a:List (S75)) (b:List (S263)) (c:List (S266)) (d:List ByteArray):Option (Bool):=(g22Few.f k a b c d).bind fun e=>(some e)
set_option maxHeartbeats 8000000 in
set_option maxRecDepth 100000 in
theorem graftagelaw24_few.calls (k:Nat) (g:Option Addr) (i:Nat) (a:List (S75)) (j:Option Addr) (l:Nat) (b:List (S263)) (m:Option Addr) (n:Nat) (c:List (S266)) (o:Option Addr) (p:Nat) (d:List ByteArray) (r:Bool) (w:World) (t:Kd.C k75 w g a.length a) (u:a.length≤i) (v:Kd.C k263 w j b.length b) (x:b.length≤l) (y:Kd.C k266 w m c.length c) (z:c.length≤n) (A:Kd.C Kd.string w o d.length d) (B:d.length≤p) (h:graftagelaw24_few.f k a b c d=some r) :
  Calls Tryz.prog 4 #[.agg #[.slice g a.length i,.slice j b.length l,.slice m c.length n,.slice o d.length p]] w fun e w'=>e=.returned (.bool r)∧Below w.heap.size w w':=by
 have R:=Tryz.underlying29;have D:=Aside0.mk t;have E:=Aside0.mk u;clear t u;have F:=Aside0.mk v;have G:=Aside0.mk x;clear v x;have I:=Aside0.mk y;have J:=Aside0.mk z;clear y z;have L:=Aside0.mk A;have M:=Aside0.mk B;clear A B;have HB:=Aside0.mk (Below.refl w.heap.size w);have H:((g22Few.f k a b c d).bind fun s=>(some s))=some r:=h;clear h;replace H:=zbd H;obtain ⟨s,T,H⟩:=H;obtain rfl:=Option.some.inj H;go_enter Tryz.func4,Tryz.ntmps4;go_wp2_with (first | ((with_reducible refine zgd 1 ?_);refine zBx 1 #[.slice g a.length i,.slice j b.length l,.slice m c.length n,.slice o d.length p] 29 ?_;intro N hg W hbox hb;have q:=Aside0.mk (hbox);have O:=zGE HB hg;have Q:=zGE HB hg;replace HB:=zbs HB hb;clear hb hbox hg;have U:=zF4 q) | ((with_reducible refine zgc 8 ?_);refine zGL 4 Tryz.func8 #[.agg #[.slice g a.length i,.slice j b.length l,.slice m c.length n,.slice o d.length p]] ?_;(with_reducible refine (g22Few.calls k _ _ a _ _ b _ _ c _ _ d s _ ?side1 ?side2 ?side3 ?side4 ?side5 ?side6 ?side7 ?side8 T.out).mono ?_);(case side1=>repeat (first | exact (Kd.C_below D.out HB.out) | (with_reducible refine Kd.C_alloc ?_ _) | (with_reducible refine Kd.C_drewN ?_ _) | (with_reducible refine Kd.C_drew ?_)));(case side2=>exact E.out);(case side3=>repeat (first | exact (Kd.C_below F.out HB.out) | (with_reducible refine Kd.C_alloc ?_ _) | (with_reducible refine Kd.C_drewN ?_ _) | (with_reducible refine Kd.C_drew ?_)));(case side4=>exact G.out);(case side5=>repeat (first | exact (Kd.C_below I.out HB.out) | (with_reducible refine Kd.C_alloc ?_ _) | (with_reducible refine Kd.C_drewN ?_ _) | (with_reducible refine Kd.C_drew ?_)));(case side6=>exact J.out);(case side7=>repeat (first | exact (Kd.C_below L.out HB.out) | (with_reducible refine Kd.C_alloc ?_ _) | (with_reducible refine Kd.C_drewN ?_ _) | (with_reducible refine Kd.C_drew ?_)));(case side8=>exact M.out);rintro e X ⟨rfl,hb⟩;refine ⟨_,rfl,?_⟩;replace q:=zkb q hb;replace HB:=zbs HB hb;clear hb));go_ret;exact ⟨zW,zB⟩
end Go.Proofs.YtninnmdpnoebaaaGreatDoor.PRa
end
section
namespace Go.Proofs.YtninnmdpnoebaaaGreatDoor.Hand
open Go.RowKit Go.Proofs.YtninnmdpnoebaaaGreatDoorW.PrintWords Go.Proofs.YtninnmdpnoebaaaGreatDoorW.PrintLast Go.Proofs.YtninnmdpnoebaaaGreatDoorW.PrintMore
open Go.Proofs.YtninnmdpnoebaaaGreatDoor.PRa
set_option linter.unusedVariables false
set_option linter.unusedSimpArgs false
def TxF (w:World) (B:Nat) (p:Option Addr) (l:List ByteArray):Prop:=∀ j,j < l.length→∃ ad,p=some ad∧B≤ad.block∧w.cell? (ad.add j)=some (.string (l.getD j ByteArray.empty))
theorem txf_of_R {w:World} {A:Option Addr} {c:Nat} {xs:List ByteArray} {base:Nat} {e:TypeId} (h:Kd.string.R e w base (fun _=>True) (.slice A xs.length c) xs):TxF w base A xs:=fun j hj=>by
 obtain ⟨_,_,hC⟩:=Kd.R_reads' h;obtain ⟨ad,rfl,hc⟩:=Kd.at_string hC (j:Int) (by omega) (by omega);refine ⟨ad,rfl,Kd.R_base h ad.block rfl,?_⟩;simpa [rdOf,hj] using hc
def GetEnd (rq:Int × List ByteArray) (w:World) (e:Ending) (w':World):Prop:=∃ v t p c a1 a2 a3 a4 b1 b2 b3 b4 x,e=.returned (.tuple #[v,.int .i64 rq.1]) ∧
   v=.agg #[.string t,.slice p rq.2.length c,.string a1,.string a2,.int .i64 a3,.int .i64 a4,.string b1,.string b2,.int .i64 b3,.int .i64 b4,.string x]∧TxF w' w.heap.size p rq.2∧Below w.heap.size w w'
def Reads16 (l:List S75) (ups:ByteArray→List ByteArray):Prop:=∀ x∈l,x.f1=3→(ups x.f2).length≤8∧∃ k tr an am at_ az cn cm ct cz tx,g16Parse.f k x.f2=some (tr,ups x.f2,an,am,at_,az,cn,cm,ct,cz,tx,0)
set_option maxHeartbeats 8000000 in
set_option maxRecDepth 100000 in
theorem get22_any (N:Nat) (A:Option Addr) (c:Nat) (l:List S75) (s1 s2:Value) (Ac:Option Addr) (cc:Nat) (cuts:List ByteArray) (q:Int) (ups:ByteArray→List ByteArray) (hl:l.length≤4611686018427387903) (hcl:cuts.length≤4611686018427387903) (hs:∀ ad,Ac=some ad→ad.spot=none) (h1:s1.oneCell'=true) (h2:s2.oneCell'=true)
  (hB:Reads16 l ups) (hcA:l.length≤c) (hcC:cuts.length≤cc) (id:ByteArray) (w:World) (hK:KW N A l Ac cuts q w) :
  Calls Tryz.prog 44 #[.agg #[.slice A l.length c,s1,s2,.slice Ac cuts.length cc],.string id] w fun e w'=>GetEnd (readQ l cuts ups id) w e w':=by
 have hH:=hK.held;obtain ⟨rq,hrq⟩:∃ r,readQ l cuts ups id=r:=⟨_,rfl⟩;rw [hrq];have HRQ:=Lib.hid hrq;clear hrq;generalize hw2:(w.alloc (.cells #[.slice A l.length c,s1,s2,.slice Ac cuts.length cc] 29)).alloc (.cells #[.string ⟨#[]⟩,.slice none 0 0,.string ⟨#[]⟩,.string ⟨#[]⟩,.int .i64 0,.int .i64 0,.string ⟨#[]⟩,.string ⟨#[]⟩,.int .i64 0,.int .i64 0,.string ⟨#[]⟩] 57)=w2;have hz1:(w.alloc (.cells #[.slice A l.length c,s1,s2,.slice Ac cuts.length cc] 29)).heap.size=w.heap.size+1:=Array.size_push _;have hb2:Below w.heap.size w w2:=by rw [← hw2];exact ((Below.refl _ w).alloc (Nat.le_refl _) _).alloc (by omega) _
 have k0:w2.heap[w.heap.size]? = some (.cells #[.slice A l.length c,s1,s2,.slice Ac cuts.length cc] 29 (0,0)):=by rw [← hw2,heap_alloc_old _ _ (by omega)];exact heap_alloc_new _ _
 have k1:w2.heap[w.heap.size+1]? = some (.cells #[.string ⟨#[]⟩,.slice none 0 0,.string ⟨#[]⟩,.string ⟨#[]⟩,.int .i64 0,.int .i64 0,.string ⟨#[]⟩,.string ⟨#[]⟩,.int .i64 0,.int .i64 0,.string ⟨#[]⟩] 57 (0,0)):=by rw [← hw2,← hz1];exact heap_alloc_new _ _
 have hH2:=hH.below hb2;have HX:=Lib.hid (get17_any A c l id w2 hH2.items hl hcA);have HB2:=Lib.hid hb2;have HV2:=Lib.hid k0;have HR2:=Lib.hid k1;have HH2:=Lib.hid hH2;have HW2:=Lib.hid hw2;have HBD:=Lib.hid hB;have HS:=Lib.hid hs;have c0:w2.cell? ⟨w.heap.size,0,none⟩=some (.slice A l.length c):=by rw [blk_cell k0 0];rfl
 clear hK hH hw2 hb2 k0 k1 hH2 hB hs hz1;go_enter Tryz.func44,Tryz.ntmps44;go_upto_region 1 with (fail);rw [HW2.out];go_wp2_with fail;refine HX.out.mono ?_;rintro e w3 ⟨rfl,hb3⟩;have HB3:=Lib.hid (HB2.out.trans (hb3.mono HB2.out.size));have HV3:=Lib.hid ((hb3.block _ (lt_of_block HV2.out)).trans HV2.out);have HR3:=Lib.hid ((hb3.block _ (lt_of_block HR2.out)).trans HR2.out);have HH3:=Lib.hid (HH2.out.below hb3);clear hb3 HB2 HV2 HR2 HH2 HX HW2 c0;have hAll:(#[.string ⟨#[]⟩,.slice none 0 0,.string ⟨#[]⟩,.string ⟨#[]⟩,.int .i64 0,.int .i64 0,.string ⟨#[]⟩,.string ⟨#[]⟩,.int .i64 0,.int .i64 0,.string ⟨#[]⟩]:Array Value).all (·.oneCell')=true:=by kernel_rfl
 have hInf:(Tryz.prog.info? 57).map (·.size)=some (#[.string ⟨#[]⟩,.slice none 0 0,.string ⟨#[]⟩,.string ⟨#[]⟩,.int .i64 0,.int .i64 0,.string ⟨#[]⟩,.string ⟨#[]⟩,.int .i64 0,.int .i64 0,.string ⟨#[]⟩]:Array Value).size:=by kernel_rfl
 go_upto_region 2 with (fail);have hb4:Below w3.heap.size w3 (w3.alloc (.cells #[.int .i64 (getQ l id).1.1,.string (getQ l id).1.2] 60)):=(Below.refl _ w3).alloc (Nat.le_refl _) _;have HB4:=Lib.hid (HB3.out.trans (hb4.mono HB3.out.size));have HV4:=Lib.hid ((hb4.block _ (lt_of_block HV3.out)).trans HV3.out);have HR4:=Lib.hid ((hb4.block _ (lt_of_block HR3.out)).trans HR3.out);have HH4:=Lib.hid (HH3.out.below hb4);have k4:(w3.alloc (.cells #[.int .i64 (getQ l id).1.1,.string (getQ l id).1.2] 60)).heap[w3.heap.size]? = some (.cells #[.int .i64 (getQ l id).1.1,.string (getQ l id).1.2] 60 (0,0)):=heap_alloc_new _ _;clear hb4 HB3 HV3 HR3 HH3;generalize w3.heap.size=g4 at *;generalize w3.alloc (.cells #[.int .i64 (getQ l id).1.1,.string (getQ l id).1.2] 60)=w4 at *;cases hi:isQ l id with
 | false =>
  have hg:getQ l id=((0,⟨#[]⟩),5):=by simp [getQ,hi]
  have hq:rq=(171,[]):=by rw [← HRQ.out];simp [readQ,hi]
  rw [hg] at k4 ⊢;clear hg;have HRES:=Lib.hid (setRow_heap w4 (w.heap.size+1) _ #[.string ⟨#[]⟩,.slice none 0 0,.string ⟨#[]⟩,.string ⟨#[]⟩,.int .i64 0,.int .i64 0,.string ⟨#[]⟩,.string ⟨#[]⟩,.int .i64 0,.int .i64 0,.string ⟨#[]⟩] 57 (0,0) HR4.out);have HBF:=Lib.hid (below_setRow HB4.out (show w.heap.size≤w.heap.size+1 by omega) #[.string ⟨#[]⟩,.slice none 0 0,.string ⟨#[]⟩,.string ⟨#[]⟩,.int .i64 0,.int .i64 0,.string ⟨#[]⟩,.string ⟨#[]⟩,.int .i64 0,.int .i64 0,.string ⟨#[]⟩]);subst hq;go_wp2_with (refine wpList_store_row rfl 57 (.tmp 4) (.tmp 19) rfl (w.heap.size+1) #[.string ⟨#[]⟩,.slice none 0 0,.string ⟨#[]⟩,.string ⟨#[]⟩,.int .i64 0,.int .i64 0,.string ⟨#[]⟩,.string ⟨#[]⟩,.int .i64 0,.int .i64 0,.string ⟨#[]⟩] rfl rfl 57 _ HR4.out hInf rfl hAll ?_);refine bodyPost_ret (results_ch rfl _ _ (w.heap.size+1) 57 _ (0,0) _ rfl HRES.out Tryz.underlying57 rfl (by kernel_rfl)) rfl ?_;exact ⟨_,_,_,_,_,_,_,_,_,_,_,_,_,rfl,rfl,fun j hj=>absurd hj (Nat.not_lt_zero _),HBF.out⟩
 | true =>
  have hlt:=isQ_lt hi;have hmem:l.getD (placeQ l id) z75∈l:=by
   have e:l.getD (placeQ l id) z75=l[placeQ l id]:=by simp [hlt]
   rw [e];exact List.getElem_mem hlt
  have hg:getQ l id=(((l.getD (placeQ l id) z75).f1,(l.getD (placeQ l id) z75).f2),0):=by rw [getQ,if_pos hi]
  have hbd:=HBD.out _ hmem;have hq0:rq=(if (l.getD (placeQ l id) z75).f1=3 then (0,if Lib.containsS cuts id=true then [] else ups (l.getD (placeQ l id) z75).f2) else (140,[])):=by rw [← HRQ.out,readQ,if_pos hi]
  rw [hg] at k4 ⊢;clear hg hmem hlt HBD;generalize l.getD (placeQ l id) z75=it at *;obtain ⟨i0,i1,i2⟩:=it;simp only at k4 hbd hq0 ⊢;have c0:w4.cell? ⟨g4,0,none⟩=some (.int .i64 i1):=by rw [blk_cell k4 0];rfl
  have c1:w4.cell? ⟨g4,1,none⟩=some (.string i2):=by rw [blk_cell k4 1];rfl
  by_cases c3:i1=3
  ·subst c3;rw [if_pos rfl] at hq0;obtain ⟨hfew,kp,tr,an,am,at_,az,cn,cm,ct,cz,x,hbody⟩:=hbd rfl;have HP:=Lib.hid (g16Parse.calls kp i2 tr (ups i2) an am at_ az cn cm ct cz x 0 w4 hbody);have HQ:=Lib.hid hq0;clear hq0 hbody hbd k4;generalize ups i2=pl at *;go_wp2_with fail;refine HP.out.mono ?_;rintro e w5 ⟨vp,rfl,hRp,hb5⟩;obtain ⟨Ap,cp,rfl⟩:=Kd.R_slice hRp;have HB5:=Lib.hid (HB4.out.trans (hb5.mono HB4.out.size));have HV5:=Lib.hid ((hb5.block _ (lt_of_block HV4.out)).trans HV4.out);have HR5:=Lib.hid ((hb5.block _ (lt_of_block HR4.out)).trans HR4.out);have HH5:=Lib.hid (HH4.out.below hb5);have HRP5:=Lib.hid hRp;have hz4:w.heap.size+1 < w4.heap.size:=lt_of_block HR4.out;clear hb5 hRp HB4 HV4 HR4 HH4 HP c0 c1;go_upto_region 7 with (fail);have hb6:Below w5.heap.size w5 (w5.alloc (.cells #[.string tr,.slice Ap pl.length cp,.string an,.string am,.int .i64 at_,.int .i64 az,.string cn,.string cm,.int .i64 ct,.int .i64 cz,.string x] 57)):=(Below.refl _ w5).alloc (Nat.le_refl _) _;have HB6:=Lib.hid (HB5.out.trans (hb6.mono HB5.out.size));have HV6:=Lib.hid ((hb6.block _ (lt_of_block HV5.out)).trans HV5.out);have HR6:=Lib.hid ((hb6.block _ (lt_of_block HR5.out)).trans HR5.out);have HH6:=Lib.hid (HH5.out.below hb6);have HRP6:=Lib.hid (Kd.R_below HRP5.out hb6);have k6:(w5.alloc (.cells #[.string tr,.slice Ap pl.length cp,.string an,.string am,.int .i64 at_,.int .i64 az,.string cn,.string cm,.int .i64 ct,.int .i64 cz,.string x] 57)).heap[w5.heap.size]? = some (.cells #[.string tr,.slice Ap pl.length cp,.string an,.string am,.int .i64 at_,.int .i64 az,.string cn,.string cm,.int .i64 ct,.int .i64 cz,.string x] 57 (0,0)):=heap_alloc_new _ _;have hne:w5.heap.size≠w.heap.size+1:=by have:=lt_of_block HR5.out;omega
   have hg5:w.heap.size≤w5.heap.size:=HB5.out.size;clear hb6 HB5 HV5 HR5 HH5 HRP5;generalize w5.heap.size=gc at *;generalize w5.alloc (.cells #[.string tr,.slice Ap pl.length cp,.string an,.string am,.int .i64 at_,.int .i64 az,.string cn,.string cm,.int .i64 ct,.int .i64 cz,.string x] 57)=w6 at *;have HC:=Lib.hid (in17_any Ac cc cuts id w6 HH6.out.cuts hcl hcC);have v3:w6.cell? ⟨w.heap.size,3,none⟩=some (.slice Ac cuts.length cc):=by rw [blk_cell HV6.out 3];rfl
   cases hcn:Lib.containsS cuts id with
   | true =>
    rw [hcn] at HC;have hq:rq=(0,[]):=by rw [HQ.out,hcn];rfl
    subst hq;clear HQ hcn;have k1:=(cells11 k6).2.1;have f1:=blk_frozen k6 1;have HK6:=Lib.hid k6;clear k6;go_wp2_with fail;refine HC.out.mono ?_;rintro e w7 ⟨rfl,⟨nd,rfl⟩⟩;have k1:(w6.drewN nd).cell? ⟨gc,1,none⟩=_:=k1;have f1:(w6.drewN nd).frozen? ⟨gc,1,none⟩=_:=f1;have HK6:RowKit.Hid ((w6.drewN nd).heap[gc]? = _):=Lib.hid HK6.out;have HR6:RowKit.Hid ((w6.drewN nd).heap[w.heap.size+1]? = _):=Lib.hid HR6.out;have HB6:=Lib.hid (pw_below_drewN HB6.out nd);clear HC v3;generalize w6.drewN nd=w7 at *;go_upto_region 11 with (fail);have k7:(w7.setCell ⟨gc,1,none⟩ (.slice none 0 0)).heap[gc]? = some (.cells #[.string tr,.slice none 0 0,.string an,.string am,.int .i64 at_,.int .i64 az,.string cn,.string cm,.int .i64 ct,.int .i64 cz,.string x] 57 (0,0)):=by
     have:=blk_set HK6.out 1 (.slice none 0 0);simpa using this
    have HRW:RowKit.Hid ((w7.setCell ⟨gc,1,none⟩ (.slice none 0 0)).heap[w.heap.size+1]? = some (.cells #[.string ⟨#[]⟩,.slice none 0 0,.string ⟨#[]⟩,.string ⟨#[]⟩,.int .i64 0,.int .i64 0,.string ⟨#[]⟩,.string ⟨#[]⟩,.int .i64 0,.int .i64 0,.string ⟨#[]⟩] 57 (0,0))):=Lib.hid ((Below.heap_setCell _ ⟨gc,1,none⟩ _ _ hne.symm).trans HR6.out);have HBW:=Lib.hid (HB6.out.setCell (p:=⟨gc,1,none⟩) (show w.heap.size≤gc from hg5) (.slice none 0 0));clear k1 f1 HK6;generalize w7.setCell ⟨gc,1,none⟩ (.slice none 0 0)=w8 at *;obtain ⟨d0,d1,d2,d3,d4,d5,d6,d7,d8,d9,d10⟩:=cells11 k7;clear k7;have HRES:=Lib.hid (setRow_heap w8 (w.heap.size+1) _ #[.string tr,.slice none 0 0,.string an,.string am,.int .i64 at_,.int .i64 az,.string cn,.string cm,.int .i64 ct,.int .i64 cz,.string x] 57 (0,0) HRW.out);have HBF:=Lib.hid (below_setRow HBW.out (show w.heap.size≤w.heap.size+1 by omega) #[.string tr,.slice none 0 0,.string an,.string am,.int .i64 at_,.int .i64 az,.string cn,.string cm,.int .i64 ct,.int .i64 cz,.string x]);have hAll2:(#[.string tr,.slice none 0 0,.string an,.string am,.int .i64 at_,.int .i64 az,.string cn,.string cm,.int .i64 ct,.int .i64 cz,.string x]:Array Value).all (·.oneCell')=true:=by kernel_rfl
    have hInf2:(Tryz.prog.info? 57).map (·.size)=some (#[.string tr,.slice none 0 0,.string an,.string am,.int .i64 at_,.int .i64 az,.string cn,.string cm,.int .i64 ct,.int .i64 cz,.string x]:Array Value).size:=by kernel_rfl
    go_wp2_with (refine wpList_store_row rfl 57 (.tmp 4) (.tmp 39) rfl (w.heap.size+1) #[.string tr,.slice none 0 0,.string an,.string am,.int .i64 at_,.int .i64 az,.string cn,.string cm,.int .i64 ct,.int .i64 cz,.string x] rfl rfl 57 _ HRW.out hInf2 rfl hAll2 ?_);refine bodyPost_ret (results_ch rfl _ _ (w.heap.size+1) 57 _ (0,0) _ rfl HRES.out Tryz.underlying57 rfl (by kernel_rfl)) rfl ?_;exact ⟨_,_,_,_,_,_,_,_,_,_,_,_,_,rfl,rfl,fun j hj=>absurd hj (Nat.not_lt_zero _),HBF.out⟩
   | false =>
    rw [hcn] at HC;have hq:rq=(0,pl):=by rw [HQ.out,hcn];rfl
    subst hq;clear HQ hcn;go_wp2_with fail;refine HC.out.mono ?_;rintro e w7 ⟨rfl,⟨nd,rfl⟩⟩;have k6:(w6.drewN nd).heap[gc]? = _:=k6;have HR6:RowKit.Hid ((w6.drewN nd).heap[w.heap.size+1]? = _):=Lib.hid HR6.out;have HB6:=Lib.hid (pw_below_drewN HB6.out nd);have HRP6:=Lib.hid (Kd.R_step HRP6.out (w1:=w6.drewN nd) (fun _ _ _=>rfl));clear HC v3;generalize w6.drewN nd=w7 at *;go_upto_region 11 with (fail);have HRW:=HR6;have HBW:=HB6;have hTx:TxF (w7.setRow (w.heap.size+1) #[.string tr,.slice Ap pl.length cp,.string an,.string am,.int .i64 at_,.int .i64 az,.string cn,.string cm,.int .i64 ct,.int .i64 cz,.string x]) w.heap.size Ap pl:=by
     intro j hj;obtain ⟨ad,e,hn,hc⟩:=txf_of_R HRP6.out j hj;have hb5:=Kd.R_base HRP6.out ad.block (by rw [e];rfl);have hne5:(ad.add j).block≠w.heap.size+1:=by
      rw [show (ad.add j).block=ad.block from by simp only [Addr.add];split<;>rfl];omega
     exact ⟨ad,e,by omega,(cell_setRow_other w7 (w.heap.size+1) _ _ hne5).trans hc⟩
    obtain ⟨d0,d1,d2,d3,d4,d5,d6,d7,d8,d9,d10⟩:=cells11 k6;clear k6;have HRES:=Lib.hid (setRow_heap w7 (w.heap.size+1) _ #[.string tr,.slice Ap pl.length cp,.string an,.string am,.int .i64 at_,.int .i64 az,.string cn,.string cm,.int .i64 ct,.int .i64 cz,.string x] 57 (0,0) HRW.out);have HBF:=Lib.hid (below_setRow HBW.out (show w.heap.size≤w.heap.size+1 by omega) #[.string tr,.slice Ap pl.length cp,.string an,.string am,.int .i64 at_,.int .i64 az,.string cn,.string cm,.int .i64 ct,.int .i64 cz,.string x]);have hAll2:(#[.string tr,.slice Ap pl.length cp,.string an,.string am,.int .i64 at_,.int .i64 az,.string cn,.string cm,.int .i64 ct,.int .i64 cz,.string x]:Array Value).all (·.oneCell')=true:=by kernel_rfl
    have hInf2:(Tryz.prog.info? 57).map (·.size)=some (#[.string tr,.slice Ap pl.length cp,.string an,.string am,.int .i64 at_,.int .i64 az,.string cn,.string cm,.int .i64 ct,.int .i64 cz,.string x]:Array Value).size:=by kernel_rfl
    go_wp2_with (refine wpList_store_row rfl 57 (.tmp 4) (.tmp 39) rfl (w.heap.size+1) #[.string tr,.slice Ap pl.length cp,.string an,.string am,.int .i64 at_,.int .i64 az,.string cn,.string cm,.int .i64 ct,.int .i64 cz,.string x] rfl rfl 57 _ HRW.out hInf2 rfl hAll2 ?_);refine bodyPost_ret (results_ch rfl _ _ (w.heap.size+1) 57 _ (0,0) _ rfl HRES.out Tryz.underlying57 rfl (by kernel_rfl)) rfl ?_;exact ⟨_,_,_,_,_,_,_,_,_,_,_,_,_,rfl,rfl,hTx,HBF.out⟩
  ·rw [if_neg c3] at hq0;have hq:=hq0;have c3b:(i1 != 3)=true:=by simp [c3]
   clear hq0;have HRES:=Lib.hid (setRow_heap w4 (w.heap.size+1) _ #[.string ⟨#[]⟩,.slice none 0 0,.string ⟨#[]⟩,.string ⟨#[]⟩,.int .i64 0,.int .i64 0,.string ⟨#[]⟩,.string ⟨#[]⟩,.int .i64 0,.int .i64 0,.string ⟨#[]⟩] 57 (0,0) HR4.out);have HBF:=Lib.hid (below_setRow HB4.out (show w.heap.size≤w.heap.size+1 by omega) #[.string ⟨#[]⟩,.slice none 0 0,.string ⟨#[]⟩,.string ⟨#[]⟩,.int .i64 0,.int .i64 0,.string ⟨#[]⟩,.string ⟨#[]⟩,.int .i64 0,.int .i64 0,.string ⟨#[]⟩]);subst hq;go_wp2_with (refine wpList_store_row rfl 57 (.tmp 4) (.tmp 23) rfl (w.heap.size+1) #[.string ⟨#[]⟩,.slice none 0 0,.string ⟨#[]⟩,.string ⟨#[]⟩,.int .i64 0,.int .i64 0,.string ⟨#[]⟩,.string ⟨#[]⟩,.int .i64 0,.int .i64 0,.string ⟨#[]⟩] rfl rfl 57 _ HR4.out hInf rfl hAll ?_);refine bodyPost_ret (results_ch rfl _ _ (w.heap.size+1) 57 _ (0,0) _ rfl HRES.out Tryz.underlying57 rfl (by kernel_rfl)) rfl ?_;exact ⟨_,_,_,_,_,_,_,_,_,_,_,_,_,rfl,rfl,fun j hj=>absurd hj (Nat.not_lt_zero _),HBF.out⟩
end Go.Proofs.YtninnmdpnoebaaaGreatDoor.Hand
end
section
namespace Go.Proofs.YtninnmdpnoebaaaGreatDoor.Hand
open Go.RowKit Go.Proofs.YtninnmdpnoebaaaGreatDoorW.PrintWords Go.Proofs.YtninnmdpnoebaaaGreatDoorW.PrintLast Go.Proofs.YtninnmdpnoebaaaGreatDoorW.PrintMore
open Go.Proofs.YtninnmdpnoebaaaGreatDoor.PRa
set_option linter.unusedVariables false
set_option linter.unusedSimpArgs false
def G16 (s:ByteArray) (u:List ByteArray):Prop:=Body s u∧∃ k tr an am at_ az cn cm ct cz tx,g16Parse.f k s=some (tr,u,an,am,at_,az,cn,cm,ct,cz,tx,0)
theorem whole_G (m:Int) (s:ByteArray) (hs:s.size≤4000):Tot (fun k=>g16Whole.f k m s) (fun r=>r=0→m=3→∃ u,G16 s u):=by
 unfold g16Whole.f
 have hp:Tot (fun k=>g16Parse.f k s) (fun r=>r.2.2.2.2.2.2.2.2.2.2.2=0→∃ u,G16 s u):=(parse_T hs).also (fun k r h _=>by
  obtain ⟨tr,u,an,am,at_,az,cn,cm,ct,cz,tx,e⟩:=r;intro he;have he:e=0:=he;subst he
  exact ⟨u,parse_of hs k h,k,tr,an,am,at_,az,cn,cm,ct,cz,tx,h⟩)
 exact Tot.bind (bytes_T m s (by omega)) (fun _ _=>Tot.ite (fun _=>Tot.ite (fun h2=>Tot.bind (parse15_T s (by omega)) (fun _ _=>Tot.pure (fun _ h3=>by omega))) (fun _=>Tot.ite (fun _=>Tot.bind hp (fun _ h=>Tot.pure (fun h0 _=>h h0))) (fun h3=>Tot.ite (fun h4=>Tot.bind (parseTag_T s (by omega)) (fun _ _=>Tot.pure (fun _ h3=>by omega))) (fun _=>Tot.pure (fun _ h=>absurd h h3))))) (fun h0=>Tot.pure (fun h=>absurd h h0)))
def RG (l:List S75) (i:Nat) (r:Bool):Prop:=r=true→∀ j,i≤j→j < l.length→(l.getD j z75).f1=3→∃ u,G16 (l.getD j z75).f2 u
theorem right_T (l:List S75) (hl:l.length≤80) (hs:∀ x∈l,x.f2.size≤4000):Tot (fun k=>g17Right.f k l) (RG l 0):=by
 have nm:∀ i,(rd_T75 l i).f2.size≤4000:=fun i=>rdOf_all (fun x:S75=>x.f2.size≤4000) z75 l i (by decide) hs;have key:∀ (d i:Nat),i+d=l.length→Tot (fun k=>g17Right.l0 k (i:Int) l) (RG l i):=by
  intro d
  induction d with
  | zero =>
   intro i hi;refine Tot.succ ?_;simp only [g17Right.l0];exact Tot.ite (fun h=>by omega) (fun _=>Tot.pure (fun _ j h1 h2=>by omega))
  | succ d ih =>
   intro i hi;have no:RG l i false:=fun h=>by cases h
   have rest:Tot (fun k=>(g16Whole.f k (rd_T75 l (i:Int)).f1 (rd_T75 l (i:Int)).f2).bind fun t=>if t=0 then ((g14Id.f k (rd_T75 l (i:Int)).f1 (rd_T75 l (i:Int)).f2).bind fun s=>if s.toList=(rd_T75 l (i:Int)).f0.toList then g17Right.l0 k ((i+1:Nat):Int) l else some false) else some false) (RG l i):=by
    refine Tot.bind (whole_G _ _ (nm _)) (fun r hr=>Tot.ite (fun h0=>Tot.bind (id14_T _ _ (Nat.le_trans (nm _) (by decide))) (fun _ _=>Tot.ite (fun _=>(ih (i+1) (by omega)).imp (fun b hb=>?_)) (fun _=>Tot.pure no))) (fun _=>Tot.pure no));intro ht j h1 h2 h3;by_cases c:j=i
    ·subst c;exact hr h0 h3
    ·exact hb ht j (by omega) h2 h3
   refine Tot.succ ?_;simp only [g17Right.l0];rw [inc64 i (by omega)];refine Tot.pos (by omega) (Tot.pos (by omega) (Tot.ite (fun h=>?_) (fun _=>rest)));rw [wrap64_id (n:=(i:Int) - 1) (by omega) (by omega)];exact Tot.pos (by omega) (Tot.pos (by omega) (Tot.ite (fun _=>rest) (fun _=>Tot.pure no)))
 unfold g17Right.f;exact Tot.ite (fun _=>Tot.pure (fun h=>by cases h)) (fun _=>key l.length 0 (by omega))
def Lim (l:List S75):Prop:=l.length≤80∧∀ x∈l,x.f2.size≤4000
theorem small_T (l:List S75):Tot (fun k=>g17Small.f k l) (fun r=>r=true→Lim l):=by
 unfold g17Small.f;refine Tot.ite (fun _=>Tot.pure (fun h=>by cases h)) (fun h=>?_);have hl:l.length≤80:=by omega
 have key:∀ (d i:Nat),i+d=l.length→(∀ j,j < i→(l.getD j z75).f2.size≤4000)→Tot (fun k=>g17Small.l0 k (i:Int) l) (fun r=>r=true→Lim l):=by
  intro d
  induction d with
  | zero =>
   intro i hi hj;have hs:∀ x∈l,x.f2.size≤4000:=fun x hx=>by
    obtain ⟨j,hj',e⟩:=List.getElem_of_mem hx;have:=hj j (by omega);rw [List.getD_eq_getElem?_getD,List.getElem?_eq_getElem hj',Option.getD_some,e] at this;exact this
   refine Tot.succ ?_;simp only [g17Small.l0];exact Tot.ite (fun h=>by omega) (fun _=>Tot.bind (right_T l hl hs) (fun _ _=>Tot.ite (fun _=>Tot.bind (calm_T l hl hs) (fun _ _=>Tot.pure (fun _=>⟨hl,hs⟩))) (fun _=>Tot.pure (fun h=>by cases h))))
  | succ d ih =>
   intro i hi hj;refine Tot.succ ?_;simp only [g17Small.l0];rw [inc64 i (by omega)];refine Tot.pos (by omega) (Tot.pos (by omega) (Tot.ite (fun _=>Tot.pure (fun h=>by cases h)) (fun h4=>ih (i+1) (by omega) (fun j hj'=>?_))));by_cases c:j=i
   ·subst c;have e:rd_T75 l (j:Int)=l.getD j z75:=rfl;rw [e] at h4;omega
   ·exact hj j (by omega)
 exact key l.length 0 (by omega) (fun j h=>by omega)
def FewQ (l:List S75) (cuts:List ByteArray) (r:Bool):Prop:=r=true→l.length≤30∧cuts.length≤30∧∀ x∈l,x.f1=3→∃ u,G16 x.f2 u
section
variable (l:List S75) (l1:List S263) (l2:List S266) (cuts:List ByteArray)
theorem few_T:Tot (fun k=>graftagelaw24_few.f k l l1 l2 cuts) (FewQ l cuts):=by
 have no:FewQ l cuts false:=fun h=>by cases h
 have few:Tot (fun k=>g22Few.f k l l1 l2 cuts) (FewQ l cuts):=by
  unfold g22Few.f;refine Tot.ite (fun h1=>Tot.ite (fun h2=>Tot.bind (small_T l) (fun b hb=>Tot.ite (fun hb'=>Tot.bind (right_T l (hb hb').1 (hb hb').2) (fun r hr=>Tot.pure (fun ht=>?_))) (fun _=>Tot.pure no))) (fun _=>Tot.pure no)) (fun _=>Tot.pure no);refine ⟨by omega,by omega,fun x hx h3=>?_⟩;obtain ⟨j,hj',e⟩:=List.getElem_of_mem hx;have:=hr ht j (Nat.zero_le _) hj';rw [List.getD_eq_getElem?_getD,List.getElem?_eq_getElem hj',Option.getD_some,e] at this;exact this h3
 unfold graftagelaw24_few.f;exact Tot.bind few (fun _ h=>Tot.pure h)
end
noncomputable def upsOf (s:ByteArray):List ByteArray:=open Classical in if h:∃ u,G16 s u then h.choose else []
theorem upsOf_G {s:ByteArray} {u:List ByteArray} (h:G16 s u):G16 s (upsOf s):=by
 have h':∃ u,G16 s u:=⟨u,h⟩;rw [upsOf,dif_pos h'];exact h'.choose_spec
theorem reads16_of {l:List S75} (h:∀ x∈l,x.f1=3→∃ u,G16 x.f2 u):Reads16 l upsOf:=fun x hx h3=>by
 obtain ⟨u,hu⟩:=h x hx h3;obtain ⟨hb,hp⟩:=upsOf_G hu;exact ⟨few_ups hb,hp⟩
theorem body_of {l:List S75} (h:∀ x∈l,x.f1=3→∃ u,G16 x.f2 u):∀ x∈l,x.f1=3→Body x.f2 (upsOf x.f2):=fun x hx h3=>by
 obtain ⟨u,hu⟩:=h x hx h3;exact (upsOf_G hu).1
end Go.Proofs.YtninnmdpnoebaaaGreatDoor.Hand
end
section
namespace Go.Proofs.YtninnmdpnoebaaaGreatDoor.Hand
open Go.RowKit Go.Proofs.YtninnmdpnoebaaaGreatDoorW.PrintWords Go.Proofs.YtninnmdpnoebaaaGreatDoorW.PrintLast Go.Proofs.YtninnmdpnoebaaaGreatDoorW.PrintMore
open Go.Proofs.YtninnmdpnoebaaaGreatDoor.PRa
set_option linter.unusedVariables false
set_option linter.unusedSimpArgs false
abbrev AnyV:={ v:Value // v.oneCell'=true }
def kV:Kd AnyV:=Kd.scalar (fun x=>x.1) (fun x=>x.2)
theorem infoStrs:(Tryz.prog.info? 27).map (fun i=>(i.zero,i.size,i.bytes))=some (some (.slice none 0 0),1,24):=by kernel_rfl
theorem infoInt:(Tryz.prog.info? 3).map (fun i=>(i.zero,i.size,i.bytes))=some (some (.int .i64 0),1,8):=by kernel_rfl
section
variable {w w1 w2 W:World} {N gb:Nat} {vI vU vT v1:Value} {ki:List ByteArray} {us:List AnyV} {ts:List Int}
theorem Below.cell_setCell_ne {g h i:Nat} {u v:Value} (hne:g≠h) (hc:w.cell? ⟨g,1,none⟩=some v):(w.setCell ⟨h,i,none⟩ u).cell? ⟨g,1,none⟩=some v:=by
  rw [World.cell?_of_block (w:=w) (a:=⟨g,1,none⟩) (Below.heap_setCell w ⟨h,i,none⟩ u g hne)];exact hc
theorem R_apart {α:Type} {d:Kd α} {e:Nat} {v:Value} {xs:List α} {r:Option Nat} (hR:d.R e w N (fun _=>True) v xs) (hE:d.E=[]) (hg:w.grownBy w1 r) (hr:∀ k,r=some k→∃ cells t,w.heap[k]? = some (.cells cells t (0,0))∧t≠e):d.R e w1 N (fun _=>True) v xs:=by
  refine Kd.R_mono (Kd.R_grown (Kd.R_bound hR) hg (fun k hk hx=>?_)) (fun _ _=>trivial);obtain ⟨cells,t,h1,h2⟩:=hr k hx.symm;obtain ⟨_,_,_,q,hq,cs,h3⟩:=hk;rw [hE,List.mem_singleton] at hq;subst hq;rw [h3] at h1;injection h1 with h1;injection h1 with _ h1;exact h2 h1.symm
theorem cells3 {g:Nat} {a0 a1 a2:Value} {T:TypeId} (h:w.heap[g]? = some (.cells #[a0,a1,a2] T (0,0))):w.cell? ⟨g,0,none⟩=some a0∧w.cell? ⟨g,1,none⟩=some a1∧w.cell? ⟨g,2,none⟩=some a2:=⟨by rw [blk_cell h 0];rfl,by rw [blk_cell h 1];rfl,by rw [blk_cell h 2];rfl⟩
structure GQ (w:World) (N gb:Nat) (vI vU vT:Value) (ki:List ByteArray) (us:List AnyV) (ts:List Int):Prop where
  blk:w.heap[gb]? = some (.cells #[vI,vU,vT] 100 (0,0))
  I:Kd.string.R 9 w N (fun _=>True) vI ki
  U:kV.R 27 w N (fun _=>True) vU us
  T:(Kd.int .i64).R 3 w N (fun _=>True) vT ts
  ge:N≤gb
theorem own_ty {α:Type} {d:Kd α} {e:Nat} {v:Value} {xs:List α} (hR:d.R e w N (fun _=>True) v xs) (k:Nat) (hk:v.ownBlock=some k):∃ cells,w.heap[k]? = some (.cells cells e (0,0)):=by
  obtain ⟨inner,ho⟩:=Kd.R_own hR;exact own_typed ho k hk
structure Moved (w w':World) (gb:Nat) (vI vU vT vI' vU' vT':Value):Prop where
  os:w'.os=w.os
  tape:w'.tape=w.tape
  output:w'.output=w.output
  size:w.heap.size≤w'.heap.size
  blk:∀ k,k < w.heap.size→k≠gb→some k≠vI.ownBlock→some k≠vU.ownBlock→some k≠vT.ownBlock→w'.heap[k]? = w.heap[k]?
  I:vI'.ownBlock=vI.ownBlock∨∃ b,vI'.ownBlock=some b∧w.heap.size≤b
  U:vU'.ownBlock=vU.ownBlock∨∃ b,vU'.ownBlock=some b∧w.heap.size≤b
  T:vT'.ownBlock=vT.ownBlock∨∃ b,vT'.ownBlock=some b∧w.heap.size≤b
theorem own_trans {a b c:Option Nat} {n m:Nat} (h:b=a∨∃ x,b=some x∧n≤x) (hn:n≤m) (k:c=b∨∃ x,c=some x∧m≤x):c=a∨∃ x,c=some x∧n≤x:=by
  rcases k with rfl | ⟨x,rfl,hx⟩
  · exact h
  · exact .inr ⟨x,rfl,by omega⟩
theorem own_not {a b:Option Nat} {n k:Nat} (h:b=a∨∃ x,b=some x∧n≤x) (hk:k < n) (hne:some k≠a):some k≠b:=by
  rcases h with rfl | ⟨x,rfl,hx⟩
  · exact hne
  · intro e;injection e with e;omega
theorem Moved.trans {w w' w'':World} {a b c a' b' c' a'' b'' c'':Value} (h:Moved w w' gb a b c a' b' c') (k:Moved w' w'' gb a' b' c' a'' b'' c''):Moved w w'' gb a b c a'' b'' c'' :=
  ⟨k.os.trans h.os,k.tape.trans h.tape,k.output.trans h.output,Nat.le_trans h.size k.size,
   fun j hj hg h1 h2 h3=>(k.blk j (Nat.lt_of_lt_of_le hj h.size) hg (own_not h.I hj h1) (own_not h.U hj h2) (own_not h.T hj h3)).trans (h.blk j hj hg h1 h2 h3),
   own_trans h.I h.size k.I,own_trans h.U h.size k.U,own_trans h.T h.size k.T⟩
theorem Moved.refl (w:World) (gb:Nat) (a b c:Value):Moved w w gb a b c a b c:=⟨rfl,rfl,rfl,Nat.le_refl _,fun _ _ _ _ _ _=>rfl,.inl rfl,.inl rfl,.inl rfl⟩
theorem Moved.of_grown {w w':World} {a b c:Value} (h:w.grownBy w' none):Moved w w' gb a b c a b c:=⟨h.os,h.tape,h.output,h.size,fun k hk _ _ _ _=>h.block k hk (by simp),.inl rfl,.inl rfl,.inl rfl⟩
theorem Moved.below {N:Nat} {w w':World} {a b c a' b' c':Value} (h:Moved w w' gb a b c a' b' c') (hs:N≤w.heap.size) (hg:N≤gb) (h1:∀ k,a.ownBlock=some k→N≤k) (h2:∀ k,b.ownBlock=some k→N≤k) (h3:∀ k,c.ownBlock=some k→N≤k):Below N w w' :=
  ⟨h.os,h.tape,h.output,h.size,fun k hk=>h.blk k (by omega) (by omega) (fun e=>by have:=h1 k e.symm;omega) (fun e=>by have:=h2 k e.symm;omega) (fun e=>by have:=h3 k e.symm;omega)⟩
theorem GQ.below {N:Nat} {w':World} {a' b' c':Value} (q:GQ w N gb vI vU vT ki us ts) (h:Moved w w' gb vI vU vT a' b' c'):Below N w w' :=
  h.below (by have:=lt_of_block q.blk;have:=q.ge;omega) q.ge (Kd.R_base q.I) (Kd.R_base q.U) (Kd.R_base q.T)
theorem GQ.grown (q:GQ w N gb vI vU vT ki us ts) (hg:w.grownBy w1 none):GQ w1 N gb vI vU vT ki us ts :=
  ⟨(hg.block gb (lt_of_block q.blk) (by simp)).trans q.blk,R_apart q.I rfl hg (by simp),R_apart q.U rfl hg (by simp),R_apart q.T rfl hg (by simp),q.ge⟩
theorem GQ.cells (q:GQ w N gb vI vU vT ki us ts):w.cell? ⟨gb,0,none⟩=some vI∧w.cell? ⟨gb,1,none⟩=some vU∧w.cell? ⟨gb,2,none⟩=some vT:=⟨by rw [blk_cell q.blk 0];rfl,by rw [blk_cell q.blk 1];rfl,by rw [blk_cell q.blk 2];rfl⟩
theorem GQ.setI (q:GQ W N gb vI vU vT ki us ts) {ki':List ByteArray} (hR:Kd.string.R 9 w1 N (fun _=>True) v1 ki') (hg:W.grownBy w1 vI.ownBlock) (hat:v1.ownBlock=vI.ownBlock∨∃ b,v1.ownBlock=some b∧W.heap.size≤b) :
    GQ (w1.setCell ⟨gb,0,none⟩ v1) N gb v1 vU vT ki' us ts∧Moved W (w1.setCell ⟨gb,0,none⟩ v1) gb vI vU vT v1 vU vT:=by
  have hty:=own_ty q.I;have hne:some gb≠vI.ownBlock:=fun e=>by obtain ⟨cs,h⟩:=hty gb e.symm;rw [q.blk] at h;cases h
  have hb1:=(hg.block gb (lt_of_block q.blk) hne).trans q.blk;have hs:=grown_setCell w1 gb 0 v1;have hbs:=blk_set hb1 0 v1;have hgb:∀ k,some gb=some k→∃ cells t,w1.heap[k]? = some (.cells cells t (0,0))∧t=100:=fun k e=>by injection e with e;subst e;exact ⟨_,_,hb1,rfl⟩
  have ap:∀ {α:Type} {d:Kd α} {e:Nat} {v:Value} {xs:List α},d.R e w1 N (fun _=>True) v xs→d.E=[]→e≠100→d.R e (w1.setCell ⟨gb,0,none⟩ v1) N (fun _=>True) v xs:=fun h hE he=>R_apart h hE hs (fun k hk=>by
    obtain ⟨cs,t,h1,h2⟩:=hgb k hk
    exact ⟨cs,t,h1,by rw [h2];exact fun h=>he h.symm⟩)
  refine ⟨⟨by simpa using hbs,ap hR rfl (by decide),ap (R_apart q.U rfl hg (fun k hk=>by obtain ⟨cs,h⟩:=hty k hk;exact ⟨cs,_,h,by decide⟩)) rfl (by decide),ap (R_apart q.T rfl hg (fun k hk=>by obtain ⟨cs,h⟩:=hty k hk;exact ⟨cs,_,h,by decide⟩)) rfl (by decide),q.ge⟩,
    ⟨hs.os.trans hg.os,hs.tape.trans hg.tape,hs.output.trans hg.output,Nat.le_trans hg.size hs.size,fun k hk h1 h2 h3 h4=>(hs.block k (Nat.lt_of_lt_of_le hk hg.size) (by intro e;injection e with e;exact h1 e)).trans (hg.block k hk h2),hat,.inl rfl,.inl rfl⟩⟩
theorem GQ.setU (q:GQ W N gb vI vU vT ki us ts) {us':List AnyV} (hR:kV.R 27 w1 N (fun _=>True) v1 us') (hg:W.grownBy w1 vU.ownBlock) (hat:v1.ownBlock=vU.ownBlock∨∃ b,v1.ownBlock=some b∧W.heap.size≤b) :
    GQ (w1.setCell ⟨gb,1,none⟩ v1) N gb vI v1 vT ki us' ts∧Moved W (w1.setCell ⟨gb,1,none⟩ v1) gb vI vU vT vI v1 vT:=by
  have hty:=own_ty q.U;have hne:some gb≠vU.ownBlock:=fun e=>by obtain ⟨cs,h⟩:=hty gb e.symm;rw [q.blk] at h;cases h
  have hb1:=(hg.block gb (lt_of_block q.blk) hne).trans q.blk;have hs:=grown_setCell w1 gb 1 v1;have hbs:=blk_set hb1 1 v1;have hgb:∀ k,some gb=some k→∃ cells t,w1.heap[k]? = some (.cells cells t (0,0))∧t=100:=fun k e=>by injection e with e;subst e;exact ⟨_,_,hb1,rfl⟩
  have ap:∀ {α:Type} {d:Kd α} {e:Nat} {v:Value} {xs:List α},d.R e w1 N (fun _=>True) v xs→d.E=[]→e≠100→d.R e (w1.setCell ⟨gb,1,none⟩ v1) N (fun _=>True) v xs:=fun h hE he=>R_apart h hE hs (fun k hk=>by
    obtain ⟨cs,t,h1,h2⟩:=hgb k hk
    exact ⟨cs,t,h1,by rw [h2];exact fun h=>he h.symm⟩)
  refine ⟨⟨by simpa using hbs,ap (R_apart q.I rfl hg (fun k hk=>by obtain ⟨cs,h⟩:=hty k hk;exact ⟨cs,_,h,by decide⟩)) rfl (by decide),ap hR rfl (by decide),ap (R_apart q.T rfl hg (fun k hk=>by obtain ⟨cs,h⟩:=hty k hk;exact ⟨cs,_,h,by decide⟩)) rfl (by decide),q.ge⟩,
    ⟨hs.os.trans hg.os,hs.tape.trans hg.tape,hs.output.trans hg.output,Nat.le_trans hg.size hs.size,fun k hk h1 h2 h3 h4=>(hs.block k (Nat.lt_of_lt_of_le hk hg.size) (by intro e;injection e with e;exact h1 e)).trans (hg.block k hk h3),.inl rfl,hat,.inl rfl⟩⟩
theorem GQ.setT (q:GQ W N gb vI vU vT ki us ts) {ts':List Int} (hR:(Kd.int .i64).R 3 w1 N (fun _=>True) v1 ts') (hg:W.grownBy w1 vT.ownBlock) (hat:v1.ownBlock=vT.ownBlock∨∃ b,v1.ownBlock=some b∧W.heap.size≤b) :
    GQ (w1.setCell ⟨gb,2,none⟩ v1) N gb vI vU v1 ki us ts'∧Moved W (w1.setCell ⟨gb,2,none⟩ v1) gb vI vU vT vI vU v1:=by
  have hty:=own_ty q.T;have hne:some gb≠vT.ownBlock:=fun e=>by obtain ⟨cs,h⟩:=hty gb e.symm;rw [q.blk] at h;cases h
  have hb1:=(hg.block gb (lt_of_block q.blk) hne).trans q.blk;have hs:=grown_setCell w1 gb 2 v1;have hbs:=blk_set hb1 2 v1;have hgb:∀ k,some gb=some k→∃ cells t,w1.heap[k]? = some (.cells cells t (0,0))∧t=100:=fun k e=>by injection e with e;subst e;exact ⟨_,_,hb1,rfl⟩
  have ap:∀ {α:Type} {d:Kd α} {e:Nat} {v:Value} {xs:List α},d.R e w1 N (fun _=>True) v xs→d.E=[]→e≠100→d.R e (w1.setCell ⟨gb,2,none⟩ v1) N (fun _=>True) v xs:=fun h hE he=>R_apart h hE hs (fun k hk=>by
    obtain ⟨cs,t,h1,h2⟩:=hgb k hk
    exact ⟨cs,t,h1,by rw [h2];exact fun h=>he h.symm⟩)
  refine ⟨⟨by simpa using hbs,ap (R_apart q.I rfl hg (fun k hk=>by obtain ⟨cs,h⟩:=hty k hk;exact ⟨cs,_,h,by decide⟩)) rfl (by decide),ap (R_apart q.U rfl hg (fun k hk=>by obtain ⟨cs,h⟩:=hty k hk;exact ⟨cs,_,h,by decide⟩)) rfl (by decide),ap hR rfl (by decide),q.ge⟩,
    ⟨hs.os.trans hg.os,hs.tape.trans hg.tape,hs.output.trans hg.output,Nat.le_trans hg.size hs.size,fun k hk h1 h2 h3 h4=>(hs.block k (Nat.lt_of_lt_of_le hk hg.size) (by intro e;injection e with e;exact h1 e)).trans (hg.block k hk h4),.inl rfl,.inl rfl,hat⟩⟩
end
set_option maxHeartbeats 8000000 in
set_option maxRecDepth 100000 in
theorem add_any (N gb:Nat) (vI vU vT:Value) (ks:List ByteArray) (us:List AnyV) (ts:List Int) (id t:ByteArray) (p:Option Addr) (n c:Nat) (a1 a2:ByteArray) (a3 a4:Int) (b1 b2:ByteArray) (b3 b4:Int) (x:ByteArray) (w:World) (hQ:GQ w N gb vI vU vT ks us ts) (h1:ks.length≤1000000) (h2:us.length≤1000000) (h3:ts.length≤1000000) :
    Calls Tryz.prog 67 #[.pointer (some ⟨gb,0,none⟩),.string id,.agg #[.string t,.slice p n c,.string a1,.string a2,.int .i64 a3,.int .i64 a4,.string b1,.string b2,.int .i64 b3,.int .i64 b4,.string x]] w fun e w'=>e=.returned (.tuple #[]) ∧
      ∃ vI' vU' vT',GQ w' N gb vI' vU' vT' (ks++[id]) (us++[⟨.slice p n c,rfl⟩]) (ts++[b3])∧Moved w w' gb vI vU vT vI' vU' vT':=by
  have hb1:Below w.heap.size w (w.alloc (.cells #[.string t,.slice p n c,.string a1,.string a2,.int .i64 a3,.int .i64 a4,.string b1,.string b2,.int .i64 b3,.int .i64 b4,.string x] 57)):=(Below.refl _ w).alloc (Nat.le_refl _) _;have hg1:=grown_below hb1 none;have k1:(w.alloc (.cells #[.string t,.slice p n c,.string a1,.string a2,.int .i64 a3,.int .i64 a4,.string b1,.string b2,.int .i64 b3,.int .i64 b4,.string x] 57)).heap[w.heap.size]? = some (.cells #[.string t,.slice p n c,.string a1,.string a2,.int .i64 a3,.int .i64 a4,.string b1,.string b2,.int .i64 b3,.int .i64 b4,.string x] 57 (0,0)):=heap_alloc_new _ _;have hQ1:=hQ.grown hg1;have hM1:Moved w _ gb vI vU vT vI vU vT:=Moved.of_grown hg1;have hgx:w.heap.size≠gb:=by have:=lt_of_block hQ.blk;omega
  obtain ⟨AI,cI,rfl⟩:=Kd.R_slice hQ.I;obtain ⟨AU,cU,rfl⟩:=Kd.R_slice hQ.U;obtain ⟨AT,cT,rfl⟩:=Kd.R_slice hQ.T;have HQ1:=Lib.hid hQ1;have HM1:=Lib.hid hM1;have HK1:=Lib.hid k1;have hz1:N≤(w.alloc (.cells #[.string t,.slice p n c,.string a1,.string a2,.int .i64 a3,.int .i64 a4,.string b1,.string b2,.int .i64 b3,.int .i64 b4,.string x] 57)).heap.size:=by have:=lt_of_block hQ1.blk;have:=hQ1.ge;omega
  clear hQ hb1 hg1 k1 hQ1 hM1;go_enter Tryz.func67,Tryz.ntmps67;go_upto_region 1 with (fail);generalize w.alloc (.cells #[.string t,.slice p n c,.string a1,.string a2,.int .i64 a3,.int .i64 a4,.string b1,.string b2,.int .i64 b3,.int .i64 b4,.string x] 57)=w1 at *;generalize w.heap.size=gx at *;have c0:=HQ1.out.cells.1;have f0:=blk_frozen HQ1.out.blk 0;have hB1:=Below.refl w1.heap.size w1;go_wp2_with (at_builtin;refine Kd.R_append Kd.string (w0:=w1) N rfl _ _ 27 9 (.string ⟨#[]⟩) 16 rfl Tryz.underlying27 infoStr rfl (by decide) (by decide) (.slice AI ks.length cI) ks id [.string id] (fun _=>True) (fun _=>False) rfl (by simp [go_sem]) rfl (fun _ h=>h.elim) (fun k hk=>trivial) HQ1.out.I (Below.refl _ _) hz1 (by omega) ?_;intro v2 w2 hR2 hB2 hg2 hat2;obtain ⟨A2,c2,hv2⟩:=Kd.R_slice hR2;subst hv2;have k2:=(hg2.block gb (lt_of_block HQ1.out.blk) (Kd.R_ne HQ1.out.I HQ1.out.blk (by decide))).trans HQ1.out.blk;have c02:=(cells3 k2).1;have f02:=blk_frozen k2 0);obtain ⟨hQ3,hM3⟩:=HQ1.out.setI hR2 hg2 hat2;have hgb:gb < w1.heap.size:=lt_of_block HQ1.out.blk;have k3:=(hM3.blk gx (lt_of_block HK1.out) hgx (Kd.R_ne HQ1.out.I HK1.out (by decide)) (Kd.R_ne HQ1.out.U HK1.out (by decide)) (Kd.R_ne HQ1.out.T HK1.out (by decide))).trans HK1.out;have hz3:N≤(w2.setCell ⟨gb,0,none⟩ (.slice A2 (ks++[id]).length c2)).heap.size:=Nat.le_trans hz1 hM3.size;have HQ3:=Lib.hid hQ3;have HM3:=Lib.hid (HM1.out.trans hM3);have HK3:=Lib.hid k3;rw [List.length_append,List.length_singleton] at HQ3 HM3 HK3 hz3;clear hQ3 hM3 k2 c02 f02 c0 f0 hR2 hB2 hg2 hat2 k3 HQ1 HM1 HK1 hB1;generalize w2.setCell ⟨gb,0,none⟩ (.slice A2 (ks.length+1) c2)=w3 at *;obtain ⟨-,c31,-⟩:=HQ3.out.cells;have f31:=blk_frozen HQ3.out.blk 1;obtain ⟨-,d31,-⟩:=cells11 HK3.out;have c31d:w3.drew.cell? ⟨gb,1,none⟩=some (.slice AU us.length cU):=c31;have d31d:w3.drew.cell? ⟨gx,1,none⟩=some (.slice p n c):=d31;have hgb3:gb < w3.heap.size:=lt_of_block HQ3.out.blk;have hgx3:gx < w3.heap.size:=lt_of_block HK3.out;have HQ3d:RowKit.Hid (GQ w3.drew N gb (.slice A2 (ks.length+1) c2) (.slice AU us.length cU) (.slice AT ts.length cT) (ks++[id]) us ts):=Lib.hid ⟨HQ3.out.blk,Kd.R_drew HQ3.out.I,Kd.R_drew HQ3.out.U,Kd.R_drew HQ3.out.T,HQ3.out.ge⟩;have hz3d:N≤w3.drew.heap.size:=hz3;have HM3d:RowKit.Hid (Moved w w3.drew gb (.slice AI ks.length cI) (.slice AU us.length cU) (.slice AT ts.length cT) (.slice A2 (ks.length+1) c2) (.slice AU us.length cU) (.slice AT ts.length cT)):=Lib.hid (HM3.out.trans ⟨rfl,rfl,rfl,Nat.le_refl _,fun _ _ _ _ _ _=>rfl,.inl rfl,.inl rfl,.inl rfl⟩);have HK3d:RowKit.Hid (w3.drew.heap[gx]? = _):=Lib.hid HK3.out;go_cut [] (fun wc=>∃ A4 c4,GQ wc N gb (.slice A2 (ks.length+1) c2) (.slice A4 (us.length+1) c4) (.slice AT ts.length cT) (ks++[id]) (us++[(⟨.slice p n c,rfl⟩:AnyV)]) ts∧Moved w wc gb (.slice AI ks.length cI) (.slice AU us.length cU) (.slice AT ts.length cT) (.slice A2 (ks.length+1) c2) (.slice A4 (us.length+1) c4) (.slice AT ts.length cT)∧wc.heap[gx]? = some (.cells #[.string t,.slice p n c,.string a1,.string a2,.int .i64 a3,.int .i64 a4,.string b1,.string b2,.int .i64 b3,.int .i64 b4,.string x] 57 (0,0))∧N≤wc.heap.size)
  case first =>
    go_region_law
      ((refine Kd.R_append_step kV (w0:=w3.drew) N rfl _ _ 97 27 (.slice none 0 0) 24 rfl Tryz.underlying97 infoStrs rfl (by decide) (by decide) (.slice AU us.length cU) us (⟨.slice p n c,rfl⟩:AnyV) [.slice p n c] (fun _=>True) (fun _=>False) rfl (by simp [go_sem]) rfl (fun _ h=>h.elim) (fun k hk=>trivial) HQ3d.out.U (Below.refl _ _) hz3d (by omega) ?_;intro v4 w4 hR4 hB4 hg4 hat4;obtain ⟨A4,c4,hv4⟩:=Kd.R_slice hR4;subst hv4;have k4:=(hg4.block gb hgb3 (Kd.R_ne HQ3d.out.U HQ3d.out.blk (by decide))).trans HQ3d.out.blk;have c41:=(cells3 k4).2.1;have f41:=blk_frozen k4 1;have k4x:=(hg4.block gx hgx3 (Kd.R_ne HQ3d.out.U HK3d.out (by decide))).trans HK3d.out;have d41:=(cells11 k4x).2.1;have d42:(w4.setCell ⟨gb,1,none⟩ (.slice A4 (us.length+1) c4)).cell? ⟨gx,1,none⟩=some (.slice p n c):=(Below.cell_setCell_ne hgx d41)))
    all_goals
      obtain ⟨hQ5,hM5⟩:=HQ3d.out.setU hR4 hg4 hat4;have k5:=(hM5.blk gx hgx3 hgx (Kd.R_ne HQ3d.out.I HK3d.out (by decide)) (Kd.R_ne HQ3d.out.U HK3d.out (by decide)) (Kd.R_ne HQ3d.out.T HK3d.out (by decide))).trans HK3d.out;have hz5:=Nat.le_trans hz3d hM5.size;rw [List.length_append,List.length_singleton] at hQ5 hM5 k5 hz5;have hM6:=HM3d.out.trans hM5;go_wp2_with (fail);go_meet;exact ⟨A4,c4,hQ5,hM6,k5,hz5⟩
  case rest =>
    obtain ⟨A4,c4,hQ5,hM5,k5,hz5⟩:=hcut;go_upto_region 3 with (fail);have HQ5:=Lib.hid hQ5;have HM5:=Lib.hid hM5;have HK5:=Lib.hid k5;have hgb5:gb < wc.heap.size:=lt_of_block hQ5.blk;have hgx5:gx < wc.heap.size:=lt_of_block k5;have c52:wc.cell? ⟨gb,2,none⟩=some (.slice AT ts.length cT):=hQ5.cells.2.2;have d58:wc.cell? ⟨gx,8,none⟩=some (.int .i64 b3):=(cells11 k5).2.2.2.2.2.2.2.2.1;have HQ5d:RowKit.Hid (GQ wc.drew N gb (.slice A2 (ks.length+1) c2) (.slice A4 (us.length+1) c4) (.slice AT ts.length cT) (ks++[id]) (us++[(⟨.slice p n c,rfl⟩:AnyV)]) ts):=Lib.hid ⟨HQ5.out.blk,Kd.R_drew HQ5.out.I,Kd.R_drew HQ5.out.U,Kd.R_drew HQ5.out.T,HQ5.out.ge⟩;have HM5d:RowKit.Hid (Moved w wc.drew gb (.slice AI ks.length cI) (.slice AU us.length cU) (.slice AT ts.length cT) (.slice A2 (ks.length+1) c2) (.slice A4 (us.length+1) c4) (.slice AT ts.length cT)):=Lib.hid (HM5.out.trans ⟨rfl,rfl,rfl,Nat.le_refl _,fun _ _ _ _ _ _=>rfl,.inl rfl,.inl rfl,.inl rfl⟩);have hz5d:N≤wc.drew.heap.size:=hz5;clear hQ5 hM5 k5 c31 d31 c31d d31d HQ3 HM3 HK3 HQ3d HM3d HK3d f31;go_region_law
      ((refine Kd.R_append_step (Kd.int .i64) (w0:=wc.drew) N rfl _ _ 98 3 (.int .i64 0) 8 rfl Tryz.underlying98 infoInt rfl (by decide) (by decide) (.slice AT ts.length cT) ts b3 [.int .i64 b3] (fun _=>True) (fun _=>False) rfl (by simp [go_sem]) rfl (fun _ h=>h.elim) (fun k hk=>trivial) HQ5d.out.T (Below.refl _ _) hz5d (by omega) ?_;intro v6 w6 hR6 hB6 hg6 hat6;obtain ⟨A6,c6,hv6⟩:=Kd.R_slice hR6;subst hv6;have k6:=(hg6.block gb hgb5 (Kd.R_ne HQ5d.out.T HQ5d.out.blk (by decide))).trans HQ5d.out.blk;have c62:=(cells3 k6).2.2;have f62:=blk_frozen k6 2))
    all_goals
      obtain ⟨hQ7,hM7⟩:=HQ5d.out.setT hR6 hg6 hat6;have hM8:=HM5d.out.trans hM7;rw [List.length_append,List.length_singleton] at hQ7 hM7 hM8;have HQ7:=Lib.hid hQ7;have HM8:=Lib.hid hM8;clear hQ7 hM7 hM8 hR6 hB6 hg6 hat6 k6 c62 f62;go_wp2;refine bodyPost_end (results_none rfl _ _ _) rfl ?_;exact ⟨rfl,_,_,_,HQ7.out,HM8.out⟩
end Go.Proofs.YtninnmdpnoebaaaGreatDoor.Hand
end
section
namespace Go.Proofs.YtninnmdpnoebaaaGreatDoor.Hand
open Go.RowKit Go.Proofs.YtninnmdpnoebaaaGreatDoorW.PrintWords Go.Proofs.YtninnmdpnoebaaaGreatDoorW.PrintLast Go.Proofs.YtninnmdpnoebaaaGreatDoorW.PrintMore
open Go.Proofs.YtninnmdpnoebaaaGreatDoor.PRa
set_option linter.unusedVariables false
set_option linter.unusedSimpArgs false
theorem foldQ_len {f:List ByteArray→ByteArray→Option (List ByteArray × Int)} (hf:∀ met id r,f met id=some r→met.length≤r.1.length):∀ (l met:List ByteArray) (r:List ByteArray × Int),foldQ f met l=some r→met.length≤r.1.length
 | [],met,r,h=>by obtain rfl:=Option.some.inj h;exact Nat.le_refl _
 | p :: l,met,r,h=>by
  rw [foldQ] at h;obtain ⟨x,hx,h2⟩:=Option.bind_eq_some_iff.1 h;have h3:=hf _ _ _ hx;split at h2
  ·exact Nat.le_trans h3 (foldQ_len hf l _ _ h2)
  ·obtain rfl:=Option.some.inj h2;exact h3
theorem visitQ_len (rd:RdQ):∀ (n:Nat) (met:List ByteArray) (id:ByteArray) (r:List ByteArray × Int),visitQ rd n met id=some r→met.length≤r.1.length
 | 0,_,_,_,h=>by cases h
 | n+1,met,id,r,h=>by
  rw [visitQ] at h;split at h
  ·obtain rfl:=Option.some.inj h;exact Nat.le_refl _
  ·split at h
   ·have:=foldQ_len (visitQ_len rd n) _ _ _ h;rw [List.length_append,List.length_singleton] at this;omega
   ·obtain rfl:=Option.some.inj h;exact Nat.le_refl _
section
variable {P:Program} {ops:Array Oper} {o:Oper} {a:Act} {w:World} {Q:Exit→Act→World→Prop} {Kc:Act→World→Prop}
theorem run_storeCells_row {P:Program} (w:World) (g:Nat) (t:TypeId) (old cells:Array Value) (hg:w.heap[g]? = some (.cells old t (0,0))) (ho:old.size=cells.size) (h1:cells.all (·.oneCell')=true) :
  (storeCells ⟨g,0,none⟩ cells.toList 0).run P w=.ok () (w.setRow g cells):=by
 have:=run_storeCells_from (P:=P) g t cells.toList 0 old w hg (by simp;omega) (fun v hv=>(Array.all_eq_true_iff_forall_mem.1 h1) v (by simpa using hv));simpa [ho] using this
end
def Txg (w:World) (gb:Nat) (vI vU vT:Value) (p:Option Addr) (l:List ByteArray):Prop:=∀ j,j < l.length→∃ ad,p=some ad∧ad.block≠gb∧some ad.block≠vI.ownBlock∧some ad.block≠vU.ownBlock∧some ad.block≠vT.ownBlock∧w.cell? (ad.add j)=some (.string (l.getD j ByteArray.empty))
theorem add_blk (ad:Addr) (j:Nat):(ad.add j).block=ad.block:=by simp only [Addr.add];split<;>rfl
theorem Txg.moved {w w':World} {gb:Nat} {vI vU vT a b c:Value} {p:Option Addr} {l:List ByteArray} (h:Txg w gb vI vU vT p l) (hM:Moved w w' gb vI vU vT a b c):Txg w' gb a b c p l:=fun j hj=>by
 obtain ⟨ad,e,h0,h1,h2,h3,hc⟩:=h j hj;have hlt:ad.block < w.heap.size:=by have:=World.block_lt_of_cell? w _ hc;rwa [add_blk] at this
 refine ⟨ad,e,h0,own_not hM.I hlt h1,own_not hM.U hlt h2,own_not hM.T hlt h3,?_⟩;rw [World.cell?_of_block (w:=w) (a:=ad.add j) (by rw [add_blk];exact hM.blk _ hlt h0 h1 h2 h3)];exact hc
theorem txg_of_F {w:World} {B gb:Nat} {vI vU vT:Value} {p:Option Addr} {l:List ByteArray} (h:TxF w B p l) (h0:gb < B) (h1:∀ k,vI.ownBlock=some k→k < B) (h2:∀ k,vU.ownBlock=some k→k < B) (h3:∀ k,vT.ownBlock=some k→k < B):Txg w gb vI vU vT p l:=fun j hj=>by
 obtain ⟨ad,e,hb,hc⟩:=h j hj;exact ⟨ad,e,by omega,fun e=>by have:=h1 _ e.symm;omega,fun e=>by have:=h2 _ e.symm;omega,fun e=>by have:=h3 _ e.symm;omega,hc⟩
structure Reads22 (K:World→Prop) (V:Value) (rd:RdQ):Prop where
 small:∀ id,(rd id).2.length≤140737488355328
 run:∀ (id:ByteArray) (w:World),K w→Calls Tryz.prog 44 #[V,.string id] w fun e w'=>GetEnd (rd id) w e w'
structure VisS (w w':World) (N gb:Nat) (vI vU vT:Value) (met:List ByteArray):Prop where
 ex:∃ vI' vU' vT' us ts,GQ w' N gb vI' vU' vT' met us ts∧us.length=met.length∧ts.length=met.length∧Moved w w' gb vI vU vT vI' vU' vT'
def GotC (rq:Int × List ByteArray) (w2:World) (v8 v9:Value) (wc:World):Prop :=
 ∃ gc t p2 c2 a1 a2 a3 a4 b1 b2 b3 b4 x,v8=.pointer (some ⟨gc,0,none⟩)∧v9=.int .i64 rq.1∧wc.heap[gc]? = some (.cells #[.string t,.slice p2 rq.2.length c2,.string a1,.string a2,.int .i64 a3,.int .i64 a4,.string b1,.string b2,.int .i64 b3,.int .i64 b4,.string x] 57 (0,0))∧TxF wc w2.heap.size p2 rq.2∧Below w2.heap.size w2 wc∧w2.heap.size≤gc
theorem txf_setRow {w:World} {B g:Nat} {p:Option Addr} {l:List ByteArray} {cs:Array Value} {old:Array Value} {t:TypeId} (h:TxF w B p l) (hg:w.heap[g]? = some (.cells old t (0,0))) (ht:∀ j ad,j < l.length→p=some ad→ad.block≠g):TxF (w.setRow g cs) B p l:=fun j hj=>by
 obtain ⟨ad,e,hb,hc⟩:=h j hj;exact ⟨ad,e,hb,(cell_setRow_other w g cs _ (by rw [add_blk];exact ht j ad hj e)).trans hc⟩
theorem moved_drew (w:World) (gb:Nat) (a b c:Value):Moved w w.drew gb a b c a b c:=⟨rfl,rfl,rfl,Nat.le_refl _,fun _ _ _ _ _ _=>rfl,.inl rfl,.inl rfl,.inl rfl⟩
theorem TxF.keep {w w':World} {B:Nat} {p:Option Addr} {l:List ByteArray} (h:TxF w B p l) (hb:Below w.heap.size w w') {C:Nat} (hC:C≤B):TxF w' C p l:=fun j hj=>by
 obtain ⟨ad,e,hB,hc⟩:=h j hj;exact ⟨ad,e,by omega,(hb.cell (World.block_lt_of_cell? w _ hc)).trans hc⟩
section
variable {w2 wz W:World} {rq:Int × List ByteArray} {t:ByteArray} {p2:Option Addr} {c2:Nat} {a1 a2:ByteArray} {a3 a4:Int} {b1 b2:ByteArray} {b3 b4:Int} {x:ByteArray} {cs:Array Value}
theorem gotC1 (hb0:Below w2.heap.size w2 W) (hbz:Below W.heap.size W wz) (hTF:TxF wz W.heap.size p2 rq.2) (hcs:cs=#[.string t,.slice p2 rq.2.length c2,.string a1,.string a2,.int .i64 a3,.int .i64 a4,.string b1,.string b2,.int .i64 b3,.int .i64 b4,.string x]):GotC rq w2 (.pointer (some ⟨wz.heap.size,0,none⟩)) (.int .i64 rq.1) ((wz.alloc (.cells #[.string ⟨#[]⟩,.slice none 0 0,.string ⟨#[]⟩,.string ⟨#[]⟩,.int .i64 0,.int .i64 0,.string ⟨#[]⟩,.string ⟨#[]⟩,.int .i64 0,.int .i64 0,.string ⟨#[]⟩] 57)).setRow wz.heap.size cs):=by
 have hb1:Below wz.heap.size wz (wz.alloc (.cells #[.string ⟨#[]⟩,.slice none 0 0,.string ⟨#[]⟩,.string ⟨#[]⟩,.int .i64 0,.int .i64 0,.string ⟨#[]⟩,.string ⟨#[]⟩,.int .i64 0,.int .i64 0,.string ⟨#[]⟩] 57)):=(Below.refl _ wz).alloc (Nat.le_refl _) _;have hbz':=hb0.trans (hbz.mono hb0.size);have hsz:=hbz'.size;refine ⟨wz.heap.size,t,p2,c2,a1,a2,a3,a4,b1,b2,b3,b4,x,rfl,rfl,?_,?_,below_setRow (hbz'.trans (hb1.mono hsz)) hsz cs,hsz⟩
 ·rw [← hcs];exact setRow_heap _ _ _ cs _ _ (heap_alloc_new wz _)
 ·refine txf_setRow (hTF.keep hb1 hb0.size) (heap_alloc_new wz _) (fun j ad hj e=>?_);obtain ⟨ad',e',_,hc⟩:=hTF j hj;rw [e] at e';obtain rfl:=Option.some.inj e';have:=World.block_lt_of_cell? wz _ hc;rw [add_blk] at this;omega
theorem gotC2 (hb0:Below w2.heap.size w2 W) (hlt:w2.heap.size < W.heap.size) (hbz:Below W.heap.size W wz) (hz2:wz.heap[w2.heap.size]? = some (.cells #[.string ⟨#[]⟩,.slice none 0 0,.string ⟨#[]⟩,.string ⟨#[]⟩,.int .i64 0,.int .i64 0,.string ⟨#[]⟩,.string ⟨#[]⟩,.int .i64 0,.int .i64 0,.string ⟨#[]⟩] 57 (0,0))) (hTF:TxF wz W.heap.size p2 rq.2) (hcs:cs=#[.string t,.slice p2 rq.2.length c2,.string a1,.string a2,.int .i64 a3,.int .i64 a4,.string b1,.string b2,.int .i64 b3,.int .i64 b4,.string x]):GotC rq w2 (.pointer (some ⟨w2.heap.size,0,none⟩)) (.int .i64 rq.1) (wz.setRow w2.heap.size cs):=by
 have hbz':=hb0.trans (hbz.mono hb0.size);refine ⟨w2.heap.size,t,p2,c2,a1,a2,a3,a4,b1,b2,b3,b4,x,rfl,rfl,?_,?_,below_setRow hbz' (Nat.le_refl _) cs,Nat.le_refl _⟩
 ·rw [← hcs];exact setRow_heap _ _ _ cs _ _ hz2
 ·refine txf_setRow (hTF.keep (Below.refl _ _) hb0.size) hz2 (fun j ad hj e=>?_);obtain ⟨ad',e',hB,_⟩:=hTF j hj;rw [e] at e';obtain rfl:=Option.some.inj e';omega
end
def VisRl (rd:RdQ) (n:Nat) (w:World) (N gb:Nat) (vI vU vT:Value) (l:List ByteArray) (r:List ByteArray × Int) (iv:Value) (wr:World):Prop :=
 ∃ (i:Nat) (met:List ByteArray),iv=.int .i64 i∧i≤l.length∧foldQ (visitQ rd n) met (l.drop i)=some r∧VisS w wr N gb vI vU vT met
set_option maxHeartbeats 8000000 in
set_option maxRecDepth 100000 in
theorem visit22_any (K:World→Prop) (N:Nat) (s0 s1 s2 s3:Value) (o0:s0.oneCell'=true) (o1:s1.oneCell'=true) (o2:s2.oneCell'=true) (o3:s3.oneCell'=true) (rd:RdQ) (hR:Reads22 K (.agg #[s0,s1,s2,s3]) rd) (hK:∀ w w',K w→Below N w w'→K w') (n:Nat) :
  ∀ (gb:Nat) (vI vU vT:Value) (us:List AnyV) (ts:List Int) (met:List ByteArray) (p:Option Addr) (c:Nat) (l:List ByteArray) (w:World) (r:List ByteArray × Int),K w→GQ w N gb vI vU vT met us ts→us.length=met.length→ts.length=met.length→r.1.length≤1000000→l.length≤140737488355328→Txg w gb vI vU vT p l→foldQ (visitQ rd n) met l=some r →
  Calls Tryz.prog 42 #[.pointer (some ⟨gb,0,none⟩),.agg #[s0,s1,s2,s3],.slice p l.length c] w fun e w'=>e=.returned (.int .i64 r.2)∧VisS w w' N gb vI vU vT r.1:=by
 induction n with
 | zero =>
  intro gb vI vU vT us ts met p c l w r hKw hQ hu ht hrl hll hT hf;cases l with
  | cons y l=>rw [foldQ,visitQ] at hf;cases hf
  | nil =>
   obtain rfl:=Option.some.inj hf;have hb1:Below w.heap.size w (w.alloc (.cells #[s0,s1,s2,s3] 29)):=(Below.refl _ w).alloc (Nat.le_refl _) _;have HV:RowKit.Hid (VisS w (w.alloc (.cells #[s0,s1,s2,s3] 29)) N gb vI vU vT met):=Lib.hid ⟨_,_,_,us,ts,hQ.grown (grown_below hb1 none),hu,ht,Moved.of_grown (grown_below hb1 none)⟩;clear hR hK hKw hQ hT hf hb1;go_enter Tryz.func42,Tryz.ntmps42;go_wp2;refine wp_loop_rounds 1 ?_;rw [rounds_succ];go_wp2;refine bodyPost_ret (results_tmp rfl _ _ _) rfl ?_;exact ⟨rfl,HV.out⟩
 | succ n ih =>
  intro gb vI vU vT us ts met p c l w r hKw hQ hu ht hrl hll hT hf;have hb1:Below w.heap.size w (w.alloc (.cells #[s0,s1,s2,s3] 29)):=(Below.refl _ w).alloc (Nat.le_refl _) _;have hg1:=grown_below hb1 none;have kv:(w.alloc (.cells #[s0,s1,s2,s3] 29)).heap[w.heap.size]? = some (.cells #[s0,s1,s2,s3] 29 (0,0)):=heap_alloc_new _ _;have hQ1:=hQ.grown hg1;have hM1:Moved w (w.alloc (.cells #[s0,s1,s2,s3] 29)) gb vI vU vT vI vU vT:=Moved.of_grown hg1;have HREL:RowKit.Hid (VisRl rd (n+1) w N gb vI vU vT l r (.int .i64 (0:Nat)) (w.alloc (.cells #[s0,s1,s2,s3] 29))):=Lib.hid ⟨0,met,rfl,Nat.zero_le _,hf,⟨_,_,_,us,ts,hQ1,hu,ht,hM1⟩⟩;have hgv:w.heap.size≠gb:=by have:=lt_of_block hQ.blk;omega
  have hnI:some w.heap.size≠vI.ownBlock:=fun e=>by have:=Kd.R_lt hQ.I _ e.symm;omega
  have hnU:some w.heap.size≠vU.ownBlock:=fun e=>by have:=Kd.R_lt hQ.U _ e.symm;omega
  have hnT:some w.heap.size≠vT.ownBlock:=fun e=>by have:=Kd.R_lt hQ.T _ e.symm;omega
  have HR:=Lib.hid hR;have HKK:=Lib.hid hK;have IH:=Lib.hid ih;have HT:=Lib.hid hT;have HQ:=Lib.hid hQ;have HKW:=Lib.hid hKw;have HKV:=Lib.hid kv;clear hR hK ih hT hf hb1 hg1 hQ1 hM1 hQ hKw hu ht kv;go_enter Tryz.func42,Tryz.ntmps42;go_wp2;go_loopw [12] (fun iv wr=>VisRl rd (n+1) w N gb vI vU vT l r iv wr∧wr.heap[w.heap.size]? = some (.cells #[s0,s1,s2,s3] 29 (0,0))) (fun iv _=>l.length - (intOf iv).toNat)
  case atStart=>exact ⟨HREL.out,HKV.out⟩
  case round =>
   obtain ⟨⟨i,mt,rfl,hi,hf,⟨xI,xU,xT,us1,ts1,hQ1,hu1,ht1,hM1⟩⟩,hkv⟩:=hrel;clear HREL;by_cases ci:(i:Int) < (l.length:Int)
   ·have cb:decide ((i:Int) < (l.length:Int))=true:=decide_eq_true ci;have i0:0≤(i:Int):=by omega
    have hlt:i < l.length:=by omega
    have q4:IntKind.i64.wrap ((i:Int)+1)=(i:Int)+1:=by rw [i64_w];exact wrap64_id (by omega) (by omega)
    have hmt:mt.length≤r.1.length:=foldQ_len (visitQ_len rd (n+1)) _ _ _ hf;have hT1:=HT.out.moved hM1;obtain ⟨ad,rfl,t0,t1,t2,t3,hci⟩:=hT1 i hlt;have hgi:l.getD i ByteArray.empty=l[i]:=by simp [hlt]
    rw [hgi] at hci;rw [List.drop_eq_getElem_cons hlt,foldQ] at hf;generalize l[i]=id at *;obtain ⟨y,hy,hf2⟩:=Option.bind_eq_some_iff.1 hf;obtain ⟨AI,cI,rfl⟩:=Kd.R_slice hQ1.I;have hrI:=Kd.R_reads' hQ1.I;have c0:=hQ1.cells.1;have hci':wr.cell? (ad.add i)=some (.string id):=hci;have HIN:=Lib.hid (fun m=>in17_any AI cI mt id (wr.drewN m) (Kd.C_drewN hrI.2.2 m) (by omega) hrI.2.1);have HY:=Lib.hid hy;have HF2:=Lib.hid hf2;have HQ1:=Lib.hid hQ1;have HM1:=Lib.hid hM1;have HKV1:=Lib.hid hkv;clear hf hy hf2 hQ1 hM1 hT1 hrI hkv hci;go_wp2;go_quiet (first | (go_at_call 28;(with_reducible refine (HIN.out _).mono ?_);rintro e w' ⟨rfl,⟨nd,rfl⟩⟩;(try first | exact ⟨rfl,_,World.drewN_drewN _ _ _⟩ | exact ⟨rfl,_,Eq.trans (World.drewN_drewN _ _ _) (congrArg (World.drewN _) (Nat.add_assoc _ _ _))⟩)));have HQ2:RowKit.Hid (GQ (wr.drewN nq) N gb (.slice AI mt.length cI) xU xT mt us1 ts1):=Lib.hid ⟨HQ1.out.blk,Kd.R_step HQ1.out.I (fun _ _ _=>rfl),Kd.R_step HQ1.out.U (fun _ _ _=>rfl),Kd.R_step HQ1.out.T (fun _ _ _=>rfl),HQ1.out.ge⟩;have HM2:RowKit.Hid (Moved w (wr.drewN nq) gb vI vU vT (.slice AI mt.length cI) xU xT):=Lib.hid (HM1.out.trans ⟨rfl,rfl,rfl,Nat.le_refl _,fun _ _ _ _ _ _=>rfl,.inl rfl,.inl rfl,.inl rfl⟩);have HKV2:RowKit.Hid ((wr.drewN nq).heap[w.heap.size]? = some (.cells #[s0,s1,s2,s3] 29 (0,0))):=Lib.hid HKV1.out;have hci2:(wr.drewN nq).cell? (ad.add i)=some (.string id):=hci';clear HQ1 HM1 HKV1 HIN hci' c0;generalize wr.drewN nq=w2 at *;have hyo:=HY.out;rw [visitQ] at hyo;cases hcn:Lib.containsS mt id with
    | true =>
     rw [if_pos hcn] at hyo;obtain rfl:=Option.some.inj hyo;have hf2:=HF2.out;rw [if_pos rfl] at hf2;have HF3:=Lib.hid hf2;clear hyo hf2 HF2 HY hcn;go_wp2;exact ⟨⟨⟨i+1,mt,rfl,by omega,HF3.out,⟨_,_,_,us1,ts1,HQ2.out,hu1,ht1,HM2.out⟩⟩,HKV2.out⟩,by simp [intOf];omega⟩
    | false =>
     rw [if_neg (by rw [hcn];simp)] at hyo;have HYO:=Lib.hid hyo;have hv:=HKV2.out;have e0:w2.cell? ⟨w.heap.size,0,none⟩=some s0:=by rw [blk_cell hv 0];rfl
     have e1:w2.cell? ⟨w.heap.size,1,none⟩=some s1:=by rw [blk_cell hv 1];rfl
     have e2:w2.cell? ⟨w.heap.size,2,none⟩=some s2:=by rw [blk_cell hv 2];rfl
     have e3:w2.cell? ⟨w.heap.size,3,none⟩=some s3:=by rw [blk_cell hv 3];rfl
     have hvl:w.heap.size < w2.heap.size:=lt_of_block hv;have hadl:(ad.add i).block < w2.heap.size:=World.block_lt_of_cell? w2 _ hci2;have hadb:ad.block < w2.heap.size:=by rw [← add_blk ad i];exact hadl
     clear hyo hv HY hcn;go_upto_region 5 with (fail);have hBN:Below N w w2:=HQ.out.below HM2.out;have hK1:K w2.drew:=HKK.out _ _ HKW.out (below_drew1 hBN);have hNw:N≤w2.heap.size:=by have:=lt_of_block HQ2.out.blk;have:=HQ2.out.ge;omega
     have hK2:K (w2.alloc (.cells #[.string ⟨#[]⟩,.slice none 0 0,.string ⟨#[]⟩,.string ⟨#[]⟩,.int .i64 0,.int .i64 0,.string ⟨#[]⟩,.string ⟨#[]⟩,.int .i64 0,.int .i64 0,.string ⟨#[]⟩] 57)).drew:=HKK.out _ _ HKW.out (below_drew1 (hBN.alloc hNw _));have hciA:(w2.alloc (.cells #[.string ⟨#[]⟩,.slice none 0 0,.string ⟨#[]⟩,.string ⟨#[]⟩,.int .i64 0,.int .i64 0,.string ⟨#[]⟩,.string ⟨#[]⟩,.int .i64 0,.int .i64 0,.string ⟨#[]⟩] 57)).cell? (ad.add i)=some (.string id):=((below_alloc (Below.refl w2.heap.size w2) (.cells #[.string ⟨#[]⟩,.slice none 0 0,.string ⟨#[]⟩,.string ⟨#[]⟩,.int .i64 0,.int .i64 0,.string ⟨#[]⟩,.string ⟨#[]⟩,.int .i64 0,.int .i64 0,.string ⟨#[]⟩] 57)).cell hadl).trans hci2;have hAll:∀ (t:ByteArray) (p2:Option Addr) (n2 c2:Nat) (a1 a2:ByteArray) (a3 a4:Int) (b1 b2:ByteArray) (b3 b4:Int) (x:ByteArray),(#[.string t,.slice p2 n2 c2,.string a1,.string a2,.int .i64 a3,.int .i64 a4,.string b1,.string b2,.int .i64 b3,.int .i64 b4,.string x]:Array Value).all (·.oneCell')=true:=by intros;kernel_rfl
     go_cut [8,9] (fun v8 v9 wc=>GotC (rd id) w2 v8 v9 wc)
     case first =>
      go_region_law ((try go_simp);go_at_call 44;(first | refine (HR.out.run id _ hK1).mono ?_ | refine (HR.out.run id _ hK2).mono ?_);rintro e wz ⟨v,t,p2,c2,a1,a2,a3,a4,b1,b2,b3,b4,x,rfl,hv,hTF,hbz⟩;obtain ⟨cs,hcs⟩:∃ cs:Array Value,cs=#[.string t,.slice p2 (rd id).2.length c2,.string a1,.string a2,.int .i64 a3,.int .i64 a4,.string b1,.string b2,.int .i64 b3,.int .i64 b4,.string x]:=⟨_,rfl⟩;have hcz:cs.size=11:=(by rw [hcs];simp);have hca:cs.all (·.oneCell')=true:=(by rw [hcs];exact hAll _ _ _ _ _ _ _ _ _ _ _ _ _);rw [← hcs] at hv;subst hv;have HCS:=Lib.hid hcs;clear hcs;have hs1:=run_storeCells_row (P:=Tryz.prog) (wz.alloc (.cells #[.string ⟨#[]⟩,.slice none 0 0,.string ⟨#[]⟩,.string ⟨#[]⟩,.int .i64 0,.int .i64 0,.string ⟨#[]⟩,.string ⟨#[]⟩,.int .i64 0,.int .i64 0,.string ⟨#[]⟩] 57)) wz.heap.size 57 #[.string ⟨#[]⟩,.slice none 0 0,.string ⟨#[]⟩,.string ⟨#[]⟩,.int .i64 0,.int .i64 0,.string ⟨#[]⟩,.string ⟨#[]⟩,.int .i64 0,.int .i64 0,.string ⟨#[]⟩] cs (heap_alloc_new wz _) (by rw [hcz];rfl) hca;try (have hz2:=(hbz.block w2.heap.size (by simp)).trans (heap_alloc_new w2 (.cells #[.string ⟨#[]⟩,.slice none 0 0,.string ⟨#[]⟩,.string ⟨#[]⟩,.int .i64 0,.int .i64 0,.string ⟨#[]⟩,.string ⟨#[]⟩,.int .i64 0,.int .i64 0,.string ⟨#[]⟩] 57));have hs2:=run_storeCells_row (P:=Tryz.prog) wz w2.heap.size 57 #[.string ⟨#[]⟩,.slice none 0 0,.string ⟨#[]⟩,.string ⟨#[]⟩,.int .i64 0,.int .i64 0,.string ⟨#[]⟩,.string ⟨#[]⟩,.int .i64 0,.int .i64 0,.string ⟨#[]⟩] cs hz2 (by rw [hcz];rfl) hca));(all_goals (go_wp2_with (fail)));(all_goals go_meet);(all_goals first | exact gotC1 (below_drew1 (Below.refl _ w2)) hbz hTF HCS.out | exact gotC2 (below_drew1 ((Below.refl _ w2).alloc (Nat.le_refl _) _)) (by show w2.heap.size < (w2.alloc _).heap.size;simp) hbz hz2 hTF HCS.out)
     case rest =>
      obtain ⟨gc,t,p2,c2,a1,a2,a3,a4,b1,b2,b3,b4,x,rfl,rfl,hkc,hTF,hbc,hgc⟩:=hcut;have hgn:=grown_below hbc none;have HQ3:=Lib.hid (HQ2.out.grown hgn);have HM3:RowKit.Hid (Moved w wc gb vI vU vT (.slice AI mt.length cI) xU xT):=Lib.hid (HM2.out.trans (Moved.of_grown hgn));have HKV3:=Lib.hid ((hbc.block _ hvl).trans HKV2.out);have hci3:wc.cell? (ad.add i)=some (.string id):=(hbc.cell hadl).trans hci2;have HKC:=Lib.hid hkc;have hTG:Txg wc gb (.slice AI mt.length cI) xU xT p2 (rd id).2:=txg_of_F hTF (lt_of_block HQ2.out.blk) (Kd.R_lt HQ2.out.I) (Kd.R_lt HQ2.out.U) (Kd.R_lt HQ2.out.T);have HTG:=Lib.hid hTG;have hcI:some gc≠(Value.slice AI mt.length cI).ownBlock:=Kd.R_ne HQ3.out.I hkc (by decide);have hcU:some gc≠xU.ownBlock:=Kd.R_ne HQ3.out.U hkc (by decide);have hcT:some gc≠xT.ownBlock:=Kd.R_ne HQ3.out.T hkc (by decide);have hcg:gc≠gb:=by have:=lt_of_block HQ2.out.blk;omega
      have hgx:=lt_of_block hkc;clear hkc hTF hbc hgn hTG HQ2 HM2 HKV2 hci2 hciA hAll hK1 hK2 hBN hNw e0 e1 e2 e3 hadl hadb;by_cases he:(rd id).1=0
      ·have hyo:=HYO.out;rw [if_pos he] at hyo;have heb:((rd id).1 != 0)=false:=by simp [he]
       have HYO:=Lib.hid hyo;have hrs:=HR.out.small id;clear hyo;rw [he] at heb ⊢;clear he;generalize (rd id).2=ps at *;go_upto_region 8 with (fail);obtain ⟨d0,d1,d2,d3,d4,d5,d6,d7,d8,d9,d10⟩:=cells11 HKC.out;have HAD:=Lib.hid (add_any N gb (.slice AI mt.length cI) xU xT mt us1 ts1 id t p2 ps.length c2 a1 a2 a3 a4 b1 b2 b3 b4 x wc.drew ⟨HQ3.out.blk,Kd.R_drew HQ3.out.I,Kd.R_drew HQ3.out.U,Kd.R_drew HQ3.out.T,HQ3.out.ge⟩ (by omega) (by omega) (by omega));go_cut [] (fun wd=>∃ yI yU yT us2 ts2,GQ wd N gb yI yU yT (mt++[id]) us2 ts2∧us2.length=(mt++[id]).length∧ts2.length=(mt++[id]).length∧Moved wc wd gb (.slice AI mt.length cI) xU xT yI yU yT)
       case first =>
        go_region_law ((try go_simp);go_at_call 67;refine HAD.out.mono ?_;rintro e wd ⟨rfl,yI,yU,yT,hQd,hMd⟩);(all_goals (go_wp2_with (fail)));(all_goals go_meet);(all_goals exact ⟨yI,yU,yT,_,_,hQd,by simp [hu1],by simp [ht1],(moved_drew wc gb _ _ _).trans hMd⟩)
       case rest =>
        obtain ⟨yI,yU,yT,us2,ts2,hQd,hu2,ht2,hMd⟩:=hcut;have kcd:=(hMd.blk gc hgx hcg hcI hcU hcT).trans HKC.out;have hvI:some w.heap.size≠(Value.slice AI mt.length cI).ownBlock:=Kd.R_ne HQ3.out.I HKV3.out (by decide);have hvU:some w.heap.size≠xU.ownBlock:=Kd.R_ne HQ3.out.U HKV3.out (by decide);have hvT:some w.heap.size≠xT.ownBlock:=Kd.R_ne HQ3.out.T HKV3.out (by decide);have kvd:=(hMd.blk w.heap.size (lt_of_block HKV3.out) hgv hvI hvU hvT).trans HKV3.out;have HM4:=Lib.hid (HM3.out.trans hMd);have hKd:K wc:=HKK.out _ _ HKW.out (HQ.out.below HM4.out);have hry:y.1.length≤r.1.length:=by
         have h2:=HF2.out;split at h2
         ·exact foldQ_len (visitQ_len rd (n+1)) _ _ _ h2
         ·obtain rfl:=Option.some.inj h2;exact Nat.le_refl _
        have HX:=Lib.hid (IH.out gb yI yU yT us2 ts2 (mt++[id]) p2 c2 ps wc y hKd hQd hu2 ht2 (by omega) hrs (HTG.out.moved hMd) HYO.out);have HKVd:=Lib.hid kvd;obtain ⟨-,dd1,-,-,-,-,-,-,-,-,-⟩:=cells11 kcd;have e0:wc.cell? ⟨w.heap.size,0,none⟩=some s0:=by rw [blk_cell kvd 0];rfl
        have e1:wc.cell? ⟨w.heap.size,1,none⟩=some s1:=by rw [blk_cell kvd 1];rfl
        have e2:wc.cell? ⟨w.heap.size,2,none⟩=some s2:=by rw [blk_cell kvd 2];rfl
        have e3:wc.cell? ⟨w.heap.size,3,none⟩=some s3:=by rw [blk_cell kvd 3];rfl
        have HQd:=Lib.hid hQd;clear d0 d1 d2 d3 d4 d5 d6 d7 d8 d9 d10 hQd hMd kcd kvd hKd HAD HQ3 HM3 HKV3 HKC HTG HYO hvI hvU hvT hcI hcU hcT hci3;go_wp2_with fail;refine HX.out.mono ?_;rintro e we ⟨rfl,⟨zI,zU,zT,us3,ts3,hQe,hu3,ht3,hMe⟩⟩;have gvI:some w.heap.size≠yI.ownBlock:=Kd.R_ne HQd.out.I HKVd.out (by decide);have gvU:some w.heap.size≠yU.ownBlock:=Kd.R_ne HQd.out.U HKVd.out (by decide);have gvT:some w.heap.size≠yT.ownBlock:=Kd.R_ne HQd.out.T HKVd.out (by decide);have HKVe:=Lib.hid ((hMe.blk w.heap.size (lt_of_block HKVd.out) hgv gvI gvU gvT).trans HKVd.out);have HV:RowKit.Hid (VisS w we N gb vI vU vT y.1):=Lib.hid ⟨zI,zU,zT,us3,ts3,hQe,hu3,ht3,HM4.out.trans hMe⟩;clear hQe hMe gvI gvU gvT HX HQd HKVd HM4 e0 e1 e2 e3 dd1;obtain ⟨ym,ye⟩:=y;simp only at HV hry ⊢;have hf2:=HF2.out;simp only at hf2;clear HF2;by_cases ce:ye=0
        ·subst ce;rw [if_pos rfl] at hf2;have HF3:=Lib.hid hf2;clear hf2;go_wp2;exact ⟨⟨⟨i+1,ym,rfl,by omega,HF3.out,HV.out⟩,HKVe.out⟩,by simp [intOf];omega⟩
        ·rw [if_neg ce] at hf2;obtain rfl:=Option.some.inj hf2;have ceb:(ye != 0)=true:=by simp [ce]
         clear hf2;go_wp2;refine bodyPost_ret (results_tmp rfl _ _ _) rfl ?_;exact ⟨rfl,HV.out⟩
      ·have hyo:=HYO.out;rw [if_neg he] at hyo;obtain rfl:=Option.some.inj hyo;have hf2:=HF2.out;rw [if_neg he] at hf2;obtain rfl:=Option.some.inj hf2;have heb:((rd id).1 != 0)=true:=by simp [he]
       have HV:RowKit.Hid (VisS w wc N gb vI vU vT mt):=Lib.hid ⟨_,_,_,us1,ts1,HQ3.out,hu1,ht1,HM3.out⟩;clear hyo hf2 HYO HF2;go_wp2;refine bodyPost_ret (results_tmp rfl _ _ _) rfl ?_;exact ⟨rfl,HV.out⟩
   ·have cb:decide ((i:Int) < (l.length:Int))=false:=decide_eq_false ci;obtain rfl:i=l.length:=by omega
    rw [List.drop_length,foldQ] at hf;obtain rfl:=Option.some.inj hf;have HV:RowKit.Hid (VisS w wr N gb vI vU vT mt):=Lib.hid ⟨xI,xU,xT,us1,ts1,hQ1,hu1,ht1,hM1⟩;clear hf hQ1 hM1 hkv;go_wp2;refine bodyPost_ret (results_tmp rfl _ _ _) rfl ?_;exact ⟨rfl,HV.out⟩
end Go.Proofs.YtninnmdpnoebaaaGreatDoor.Hand
end
section
namespace Go.Proofs.YtninnmdpnoebaaaGreatDoor.Hand
open Go.RowKit Go.Proofs.YtninnmdpnoebaaaGreatDoorW.PrintWords Go.Proofs.YtninnmdpnoebaaaGreatDoorW.PrintLast Go.Proofs.YtninnmdpnoebaaaGreatDoorW.PrintMore
open Go.Proofs.YtninnmdpnoebaaaGreatDoor.PRa
set_option linter.unusedVariables false
set_option linter.unusedSimpArgs false
theorem spot_l0 (l:List ByteArray) (s:ByteArray) (hl:l.length≤4611686018427387903):∀ (n lo hi:Nat),hi - lo≤n→lo≤hi→hi≤l.length→∃ p:Nat,g17Spot.l0 (n+1) l s lo hi=some (p:Int)∧p≤l.length:=by
 intro n
 induction n with
 | zero =>
  intro lo hi h1 h2 h3;rw [g17Spot.l0,if_neg (by omega)];exact ⟨lo,rfl,by omega⟩
 | succ n ih =>
  intro lo hi h1 h2 h3;rw [g17Spot.l0];by_cases c:lo < hi
  ·rw [if_pos (by omega),mid64 lo hi h2 (by omega),if_pos (by omega),if_pos (by omega)];have hm:lo≤(lo+hi) / 2∧(lo+hi) / 2 < hi:=by omega
   generalize (lo+hi) / 2=m at *;split
   ·rw [wrap64_id (by omega) (by omega),show ((m:Int)+1)=((m+1:Nat):Int) by omega];exact ih (m+1) hi (by omega) (by omega) h3
   ·exact ih lo m (by omega) (by omega) (by omega)
  ·rw [if_neg (by omega)];exact ⟨lo,rfl,by omega⟩
theorem insert_law (l:List ByteArray) (s:ByteArray) (hl:l.length≤1000000) (k:Nat) (hk:l.length+1≤k):∃ r,g17Insert.f k l s=some r∧(∀ x,x∈r↔x∈l∨x=s)∧r.length≤l.length+1:=by
 obtain ⟨n,rfl⟩:∃ n,k=n+1:=⟨k - 1,by omega⟩;obtain ⟨p,hp,hpl⟩:=spot_l0 l s (by omega) n 0 l.length (by omega) (Nat.zero_le _) (Nat.le_refl _);have hf:g17Spot.f (n+1) l s=some (p:Int):=hp;have hmem:∀ x,x∈l.take p++[s]++l.drop p↔x∈l∨x=s:=fun x=>by
  have h1:x∈l↔x∈l.take p∨x∈l.drop p:=by
   rw [← List.mem_append,List.take_append_drop]
  rw [List.mem_append,List.mem_append,List.mem_singleton,h1];constructor
  ·rintro ((h | h) | h)
   ·exact .inl (.inl h)
   ·exact .inr h
   ·exact .inl (.inr h)
  ·rintro ((h | h) | h)
   ·exact .inl (.inl h)
   ·exact .inr h
   ·exact .inl (.inr h)
 have hlen:(l.take p++[s]++l.drop p).length≤l.length+1:=by
  simp only [List.length_append,List.length_take,List.length_drop,List.length_singleton];omega
 have ht:(l.take p).length≤1000000:=by rw [List.length_take];omega
 have hd:(l.drop p).length≤1000000:=by rw [List.length_drop];omega
 unfold g17Insert.f;rw [hf];simp only [Option.bind_some,List.nil_append,List.length_nil,Nat.zero_add,Int.toNat_natCast];by_cases c:p < l.length
 ·rw [if_pos (by omega),if_pos (by omega)];split
  ·rename_i he
   have hps:s∈l:=by
    have e:rdOf ByteArray.empty l (p:Int)=l[p]:=by simp [rdOf,c]
    rw [e,tl_iff] at he;rw [← he];exact List.getElem_mem c
   exact ⟨l,rfl,fun x=>⟨.inl,fun h=>h.elim id (fun h=>h ▸ hps)⟩,by omega⟩
  ·rw [if_pos (by omega),if_pos (by omega),if_pos (by omega),if_pos (by simp only [List.length_append,List.length_singleton];omega)];exact ⟨_,rfl,hmem,hlen⟩
 ·rw [if_neg (by omega),if_pos (by omega),if_pos (by omega),if_pos (by omega),if_pos (by omega),if_pos (by simp only [List.length_append,List.length_singleton];omega)];exact ⟨_,rfl,hmem,hlen⟩
theorem sorted_l0 (l:List ByteArray) (hl:l.length≤1000000):∀ (n i:Nat) (acc:List ByteArray),l.length - i=n→i≤l.length→acc.length≤i→∀ k,n+l.length+2≤k→∃ r,g17Sorted.l0 k l acc (i:Int)=some r∧r.length≤l.length∧∀ x,x∈r↔x∈acc∨x∈l.drop i:=by
 intro n
 induction n with
 | zero =>
  intro i acc h1 h2 h3 k hk;obtain ⟨m,rfl⟩:∃ m,k=m+1:=⟨k - 1,by omega⟩;rw [g17Sorted.l0,if_neg (by omega),List.drop_eq_nil_of_le (by omega)];exact ⟨acc,rfl,by omega,fun x=>by simp⟩
 | succ n ih =>
  intro i acc h1 h2 h3 k hk;obtain ⟨m,rfl⟩:∃ m,k=m+1:=⟨k - 1,by omega⟩;have c:i < l.length:=by omega
  have e:rdOf ByteArray.empty l (i:Int)=l[i]:=by simp [rdOf,c]
  obtain ⟨r1,hr1,hm1,hz1⟩:=insert_law acc l[i] (by omega) m (by omega);rw [g17Sorted.l0,if_pos (by omega),if_pos (by omega),e,hr1];simp only [Option.bind_some];rw [wrap64_id (by omega) (by omega),show ((i:Int)+1)=((i+1:Nat):Int) by omega];obtain ⟨r,hr,hz,hm⟩:=ih (i+1) r1 (by omega) (by omega) (by omega) m (by omega);refine ⟨r,hr,hz,fun x=>?_⟩;rw [hm,hm1,List.drop_eq_getElem_cons c,List.mem_cons];constructor
  ·rintro ((h | h) | h)
   ·exact .inl h
   ·exact .inr (.inl h)
   ·exact .inr (.inr h)
  ·rintro (h | h | h)
   ·exact .inl (.inl h)
   ·exact .inl (.inr h)
   ·exact .inr h
theorem sorted_law (l:List ByteArray) (hl:l.length≤1000000):∃ k r,g17Sorted.f k l=some r∧r.length≤l.length∧∀ x,x∈r↔x∈l:=by
 obtain ⟨r,hr,hz,hm⟩:=sorted_l0 l hl l.length 0 [] (by omega) (Nat.zero_le _) (Nat.le_refl _) (l.length+l.length+2) (Nat.le_refl _);exact ⟨_,r,hr,hz,fun x=>by rw [hm];simp⟩
end Go.Proofs.YtninnmdpnoebaaaGreatDoor.Hand
end
section
namespace Go.Proofs.YtninnmdpnoebaaaGreatDoor.Hand
open Go.RowKit Go.Proofs.YtninnmdpnoebaaaGreatDoorW.PrintWords Go.Proofs.YtninnmdpnoebaaaGreatDoorW.PrintLast Go.Proofs.YtninnmdpnoebaaaGreatDoorW.PrintMore
open Go.ChangeMaps
set_option linter.unusedVariables false
set_option linter.unusedSimpArgs false
def BgPost (K:World→Prop) (w:World) (s0 s1 s2 s3 o0 o1 o2 o3 o4:Value) (anc:ByteArray→List ByteArray) (ra rb:List ByteArray × Int) (e:Ending) (w':World):Prop :=
 (ra.2≠0→e=.returned (.tuple #[.pointer none,.int .i64 ra.2]))∧(ra.2=0→rb.2≠0→e=.returned (.tuple #[.pointer none,.int .i64 rb.2])) ∧
 (ra.2=0→rb.2=0→∃ p M ids,e=.returned (.tuple #[.pointer (some ⟨p,0,none⟩),.int .i64 0])∧w.heap.size≤M∧RecS K w' p M s0 s1 s2 s3 o0 o1 o2 o3 o4 anc ids)∧Below w.heap.size w w'
def BgRel (K:World→Prop) (p M:Nat) (s0 s1 s2 s3 o0 o1 o2 o3 o4:Value) (anc:ByteArray→List ByteArray) (ra rb:List ByteArray × Int) (w4:World) (iv:Value) (wr:World):Prop :=
 ∃ (i:Nat) (ids:List ByteArray),iv=.int .i64 i∧i≤2∧(0 < i→ra.2=0)∧(1 < i→rb.2=0)∧RecS K wr p M s0 s1 s2 s3 o0 o1 o2 o3 o4 anc ids∧w4.grownBy wr (some M)
set_option maxHeartbeats 4000000 in
set_option maxRecDepth 100000 in
theorem begin_any (K:World→Prop) (N:Nat) (s0 s1 s2 s3 o0 o1 o2 o3 o4:Value) (rd:RdQ) (hR:Reads K (.agg #[s0,s1,s2,s3]) rd) (hK:∀ w w',K w→Below N w w'→K w') (n:Nat) (anc:ByteArray→List ByteArray) (w:World) (hN:N≤w.heap.size) (hKw:K w) (a b:ByteArray) (ra rb:List ByteArray × Int)
  (ha:foldQ (visitQ rd n) [] [a]=some ra) (hb:foldQ (visitQ rd n) [] [b]=some rb) (hla:ra.1.length≤8796093022207) (hlb:rb.1.length≤8796093022207) (haa:ra.2=0→anc a=sortB ra.1) (hab:rb.2=0→anc b=sortB rb.1) :
  Calls Tryz.prog 11 #[.agg #[s0,s1,s2,s3],.string a,.string b,.agg #[o0,o1,o2,o3,o4]] w fun e w'=>BgPost K w s0 s1 s2 s3 o0 o1 o2 o3 o4 anc ra rb e w':=by
 have hmk:=fun wx:World=>run_makeMap_plain (P:=Tryz.prog) wx 63;have HALL:=Lib.hid (fun wx hn hk A c l r=>all_any K N s0 s1 s2 s3 rd hR wx hK hn n A c l r hk);have HKK:=Lib.hid hK;have HA:=Lib.hid ha;have HB:=Lib.hid hb;have HLA:=Lib.hid hla;have HLB:=Lib.hid hlb;have HAA:=Lib.hid haa;have HAB:=Lib.hid hab;clear hR hK ha hb hla hlb haa hab;go_enter Tryz.func11,Tryz.ntmps11;go_upto_region 3 with (fail);generalize hw5:((((w.alloc (.cells #[s0,s1,s2,s3] 29)).alloc (.cells #[o0,o1,o2,o3,o4] 42)).alloc (.map #[] 0)).alloc (.cells #[s0,s1,s2,s3,o0,o1,o2,o3,o4,.map (some (w.heap.size+1+1))] 65)).alloc (.cells #[.string a,.string b] 9)=w5;obtain ⟨b0,b1,b2,b3,hb4⟩:=four_allocs w _ _ _ _ _ (rfl:((((w.alloc (.cells #[s0,s1,s2,s3] 29)).alloc (.cells #[o0,o1,o2,o3,o4] 42)).alloc (.map #[] 0)).alloc (.cells #[s0,s1,s2,s3,o0,o1,o2,o3,o4,.map (some (w.heap.size+1+1))] 65))=_);have hz4:(((((w.alloc (.cells #[s0,s1,s2,s3] 29)).alloc (.cells #[o0,o1,o2,o3,o4] 42)).alloc (.map #[] 0)).alloc (.cells #[s0,s1,s2,s3,o0,o1,o2,o3,o4,.map (some (w.heap.size+1+1))] 65))).heap.size=w.heap.size+1+1+1+1:=by simp only [World.alloc,Array.size_push]
 have hb5:Below w.heap.size w w5:=by rw [← hw5];exact hb4.alloc (by omega) _
 have c0:w5.heap[w.heap.size]? = some (.cells #[s0,s1,s2,s3] 29 (0,0)):=by rw [← hw5,heap_alloc_old _ _ (by omega)];exact b0
 have c2:w5.heap[w.heap.size+1+1]? = some (.map #[] 0):=by rw [← hw5,heap_alloc_old _ _ (by omega)];exact b2
 have c3:w5.heap[w.heap.size+1+1+1]? = some (.cells #[s0,s1,s2,s3,o0,o1,o2,o3,o4,.map (some (w.heap.size+1+1))] 65 (0,0)):=by rw [← hw5,heap_alloc_old _ _ (by omega)];exact b3
 have c4:w5.heap[w.heap.size+1+1+1+1]? = some (.cells #[.string a,.string b] 9 (0,0)):=by rw [← hw5,← hz4];exact heap_alloc_new _ _
 have hM5:SMap w5 (w.heap.size+1+1) [] 0:=⟨c2,fun _ h=>absurd h List.not_mem_nil,by simp,fun _ h=>absurd h List.not_mem_nil,by simp⟩;have hS5:RecS K w5 (w.heap.size+1+1+1) (w.heap.size+1+1) s0 s1 s2 s3 o0 o1 o2 o3 o4 anc []:=⟨c3,HKK.out _ _ hKw (hb5.mono hN),[],0,hM5,rfl,fun _ h=>absurd h List.not_mem_nil⟩;have HREL:RowKit.Hid (BgRel K (w.heap.size+1+1+1) (w.heap.size+1+1) s0 s1 s2 s3 o0 o1 o2 o3 o4 anc ra rb w5 (.int .i64 (0:Nat)) w5):=Lib.hid ⟨0,[],rfl,by omega,by omega,by omega,hS5,World.grownBy.refl _ _⟩;have HB5:=Lib.hid hb5;have HC0:=Lib.hid c0;have HC4:=Lib.hid c4;clear hw5 b0 b1 b2 b3 hb4 hz4 hb5 c0 c2 c3 c4 hM5 hS5 hmk;go_loopw [24] (fun iv wr=>BgRel K (w.heap.size+1+1+1) (w.heap.size+1+1) s0 s1 s2 s3 o0 o1 o2 o3 o4 anc ra rb w5 iv wr) (fun iv _=>2 - (intOf iv).toNat)
 case atStart=>exact HREL.out
 case round =>
  obtain ⟨i,ids,rfl,hi,hia,hib,hS,hg⟩:=hrel;clear HREL;have h0:=(hg.block _ (lt_of_block HC0.out) (by intro e;injection e with e;omega)).trans HC0.out;have h4:=(hg.block _ (lt_of_block HC4.out) (by intro e;injection e with e;omega)).trans HC4.out;have hBr:Below w.heap.size w wr:=HB5.out.trans (below_grown hg (by omega) (by have:=lt_of_block HC4.out;omega));by_cases ci:(i:Int) < 2
  ·have cb:decide ((i:Int) < 2)=true:=decide_eq_true ci;have i0:0≤(i:Int):=by omega
   have q4:IntKind.i64.wrap ((i:Int)+1)=(i:Int)+1:=by rw [i64_w];exact wrap64_id (by omega) (by omega)
   have hsel:∃ idi ri,wr.cell? ⟨w.heap.size+1+1+1+1,i,none⟩=some (.string idi)∧foldQ (visitQ rd n) [] [idi]=some ri∧ri.1.length≤8796093022207∧(ri.2=0→anc idi=sortB ri.1) ∧
     (ri.2≠0→∀ w',Below w.heap.size w w'→BgPost K w s0 s1 s2 s3 o0 o1 o2 o3 o4 anc ra rb (.returned (.tuple #[.pointer none,.int .i64 ri.2])) w')∧(ri.2=0→(0 < i+1→ra.2=0)∧(1 < i+1→rb.2=0)):=by
    rcases (by omega:i=0∨i=1) with rfl | rfl
    ·exact ⟨a,ra,by rw [Lib.cell_of_heap h4];rfl,HA.out,HLA.out,HAA.out,fun hne w' hb=>⟨fun _=>rfl,fun h=>absurd h hne,fun h=>absurd h hne,hb⟩,fun h=>⟨fun _=>h,fun h=>absurd h (by omega)⟩⟩
    ·have h1:=hia (by omega);exact ⟨b,rb,by rw [Lib.cell_of_heap h4];rfl,HB.out,HLB.out,HAB.out,fun hne w' hb=>⟨fun h=>absurd h1 h,fun _ _=>rfl,fun _ h=>absurd h hne,hb⟩,fun h=>⟨fun _=>h1,fun _=>h⟩⟩
   obtain ⟨idi,ri,hci,hf,hl,han,hend,hnext⟩:=hsel;have v0:wr.cell? ⟨w.heap.size,0,none⟩=some s0:=by rw [Lib.cell_of_heap h0];rfl
   have v1:wr.cell? ⟨w.heap.size,1,none⟩=some s1:=by rw [Lib.cell_of_heap h0];rfl
   have v2:wr.cell? ⟨w.heap.size,2,none⟩=some s2:=by rw [Lib.cell_of_heap h0];rfl
   have v3:wr.cell? ⟨w.heap.size,3,none⟩=some s3:=by rw [Lib.cell_of_heap h0];rfl
   have hB0:Below wr.heap.size wr (wr.alloc (.cells #[.string idi] 9)):=(Below.refl _ wr).alloc (Nat.le_refl _) _;have hT:Txc (wr.alloc (.cells #[.string idi] 9)) (some ⟨wr.heap.size,0,none⟩) [idi]:=fun j hj=>by
    have:j=0:=by simpa using hj
    subst this;exact ⟨_,rfl,by show wr.heap.size < _;rw [show (wr.alloc (.cells #[.string idi] 9)).heap.size=wr.heap.size+1 from Array.size_push _];omega,by show World.cell? _ ⟨wr.heap.size,0,none⟩=_;rw [Lib.cell_of_heap (heap_alloc_new wr _)];rfl⟩
   have HX:=Lib.hid (HALL.out (wr.alloc (.cells #[.string idi] 9)) (by have:=hBr.size;have:=hB0.size;omega) (HKK.out _ _ hS.K (hB0.mono (by have:=hBr.size;omega))) (some ⟨wr.heap.size,0,none⟩) 1 [idi] ri (by simp) hT hf hl);have HS:=Lib.hid hS;have HG:=Lib.hid hg;have HB0:=Lib.hid hB0;have HBR:=Lib.hid hBr;have HEND:=Lib.hid hend;have HNEXT:=Lib.hid hnext;have HAN:=Lib.hid han;have hlt:i < 2:=by omega
   clear hS hg hB0 hBr hend hnext han hT hf hl hia hib h0 h4;go_wp2_with fail;refine HX.out.mono ?_;rintro e w1 ⟨hres,hb1⟩;have hB1:=HB0.out.trans (hb1.mono HB0.out.size);by_cases ce:ri.2=0
   ·rw [if_pos ce] at hres;obtain ⟨v,rfl,hrow⟩:=hres;have hrv:RowV w1 v (anc idi):=by rw [HAN.out ce];exact RowV.of_R hrow
    have hS1:=HS.out.below hB1 (HKK.out _ _ HS.out.K (hB1.mono (by have:=HBR.out.size;omega)));obtain ⟨es,c,hM1,hk1,hv1⟩:=hS1.known;obtain ⟨es2,cl2,hrun,hM2,hk2,hv2⟩:=smap_lay Tryz.underlying63 Tryz.underlying9 hM1 idi v;have cm1:w1.cell? ⟨w.heap.size+1+1+1,9,none⟩=some (.map (some (w.heap.size+1+1))):=by rw [Lib.cell_of_heap hS1.blk];rfl
    have hkp:=keeps_map hM1 (.map es2.toArray cl2);have hgs:=grown_setBlock w1 (w.heap.size+1+1) (.map es2.toArray cl2);have hg2:=grown_trans (grown_trans HG.out (grown_below hB1 _)) hgs;have hK2:K (setBlock w1 (w.heap.size+1+1) (.map es2.toArray cl2)):=HKK.out _ _ hS1.K (below_grown hgs (by omega) hM1.lt);have hS2:RecS K (setBlock w1 (w.heap.size+1+1) (.map es2.toArray cl2)) (w.heap.size+1+1+1) (w.heap.size+1+1) s0 s1 s2 s3 o0 o1 o2 o3 o4 anc (addK ids idi):=by
     refine ⟨(hgs.block _ (lt_of_block hS1.blk) (by intro e;injection e with e;omega)).trans hS1.blk,hK2,es2,cl2,hM2,by rw [hk2,hk1],fun x hx=>?_⟩;rcases hv2 x hx with ⟨e1,e2⟩ | hx
     ·rw [e1,e2];exact hrv.keep hkp
     ·exact (hv1 x hx).keep hkp
    have HREL:RowKit.Hid (BgRel K (w.heap.size+1+1+1) (w.heap.size+1+1) s0 s1 s2 s3 o0 o1 o2 o3 o4 anc ra rb w5 (.int .i64 ((i+1:Nat):Int)) (setBlock w1 (w.heap.size+1+1) (.map es2.toArray cl2))):=Lib.hid ⟨i+1,addK ids idi,rfl,by omega,(HNEXT.out ce).1,(HNEXT.out ce).2,hS2,hg2⟩;obtain ⟨A,cp,rfl,_⟩:=hrv;have ceb:(ri.2 != 0)=false:=by simp [ce]
    clear hrow hB1 hS1 hM1 hM2 hkp hgs hg2 hK2 hS2 hb1 HX hk1 hv1 hk2 hv2 HNEXT HEND HAN HS HG HB0;go_wp2;exact ⟨HREL.out,by simp [intOf];omega⟩
   ·rw [if_neg ce] at hres;obtain rfl:=hres;have ceb:(ri.2 != 0)=true:=by simp [ce]
    have HP:=Lib.hid (HEND.out ce w1 (HBR.out.trans (hB1.mono HBR.out.size)));clear hB1 hb1 HX HNEXT HEND HAN HS HG HB0;go_wp2;refine bodyPost_ret (results_tmp2 rfl _ _ _) rfl ?_;exact HP.out
  ·have cb:decide ((i:Int) < 2)=false:=decide_eq_false ci;have ha0:=hia (by omega);have hb0:=hib (by omega);have HP:RowKit.Hid (BgPost K w s0 s1 s2 s3 o0 o1 o2 o3 o4 anc ra rb (.returned (.tuple #[.pointer (some ⟨w.heap.size+1+1+1,0,none⟩),.int .i64 0])) wr):=Lib.hid ⟨fun h=>absurd ha0 h,fun _ h=>absurd hb0 h,fun _ _=>⟨_,_,ids,rfl,by omega,hS⟩,hBr⟩;clear hS hg hBr h0 h4 hia hib;go_wp2;refine bodyPost_ret (results_tmp2 rfl _ _ _) rfl ?_;exact HP.out
end Go.Proofs.YtninnmdpnoebaaaGreatDoor.Hand
end
section
namespace Go.Proofs.YtninnmdpnoebaaaGreatDoor.Hand
open Go.RowKit Go.Proofs.YtninnmdpnoebaaaGreatDoorW.PrintWords Go.Proofs.YtninnmdpnoebaaaGreatDoorW.PrintLast Go.Proofs.YtninnmdpnoebaaaGreatDoorW.PrintMore
open Go.ChangeMaps
set_option linter.unusedVariables false
set_option linter.unusedSimpArgs false
theorem rises_sortB (ks:List ByteArray):Rises (sortB ks):=by
 have tr:∀ a b c:List UInt8,leB a b=true→leB b c=true→leB a c=true:=fun a b c h1 h2=>by simp only [leB,decide_eq_true_eq] at *;exact List.le_trans h1 h2
 have tot:∀ a b:List UInt8,(leB a b || leB b a)=true:=fun a b=>by simp only [leB,Bool.or_eq_true,decide_eq_true_eq];exact List.le_total a b
 have h:=List.pairwise_mergeSort tr tot (ks.map bl);refine List.pairwise_map.2 (h.imp (fun {x y} hxy=>?_));rw [bl_toList,bl_toList,Go.Proofs.bytesLess_eq];simp only [leB,decide_eq_true_eq] at hxy;exact decide_eq_false (List.not_lt.2 hxy)
def alreadyQ (ra rb:List ByteArray × Int) (a b:ByteArray):Int × Int :=
 if ra.2=0 then (if rb.2=0 then (if Lib.containsS (sortB ra.1) b=true then (1,0) else if Lib.containsS (sortB rb.1) a=true then (2,0) else (0,0)) else (0,rb.2)) else (0,ra.2)
set_option maxHeartbeats 4000000 in
set_option maxRecDepth 100000 in
theorem already_any (K:World→Prop) (N:Nat) (s0 s1 s2 s3:Value) (rd:RdQ) (hR:Reads K (.agg #[s0,s1,s2,s3]) rd) (hK:∀ w w',K w→Below N w w'→K w') (n:Nat) (anc:ByteArray→List ByteArray) (w:World) (hN:N≤w.heap.size) (hKw:K w) (a b:ByteArray) (ra rb:List ByteArray × Int)
  (ha:foldQ (visitQ rd n) [] [a]=some ra) (hb:foldQ (visitQ rd n) [] [b]=some rb) (hla:ra.1.length≤8796093022207) (hlb:rb.1.length≤8796093022207) (haa:ra.2=0→anc a=sortB ra.1) (hab:rb.2=0→anc b=sortB rb.1) :
  Calls Tryz.prog 6 #[.agg #[s0,s1,s2,s3],.string a,.string b] w fun e w'=>e=.returned (.tuple #[.int .i64 (alreadyQ ra rb a b).1,.int .i64 (alreadyQ ra rb a b).2])∧Below w.heap.size w w':=by
 have hB0:Below w.heap.size w (w.alloc (.cells #[s0,s1,s2,s3] 29)):=(Below.refl _ w).alloc (Nat.le_refl _) _;have HX:=Lib.hid (begin_any K N s0 s1 s2 s3 (.int .i64 0) (.int .i64 0) (.string ⟨#[]⟩) (.string ⟨#[]⟩) (.int .i64 0) rd hR hK n anc (w.alloc (.cells #[s0,s1,s2,s3] 29)) (by have:=hB0.size;omega) (hK _ _ hKw (hB0.mono hN)) a b ra rb ha hb hla hlb haa hab);have HUP:=Lib.hid (fun wx p M ids id hNM hS hG=>up_any K N s0 s1 s2 s3 (.int .i64 0) (.int .i64 0) (.string ⟨#[]⟩) (.string ⟨#[]⟩) (.int .i64 0) rd hR hK n anc wx p M ids id hNM hS hG);have HB0:=Lib.hid hB0;have HGA:RowKit.Hid (ra.2=0→Good rd n anc a):=Lib.hid fun h=>⟨ra.1,by rw [ha];cases ra;simp only at h;subst h;rfl,haa h,hla⟩;have HGB:RowKit.Hid (rb.2=0→Good rd n anc b):=Lib.hid fun h=>⟨rb.1,by rw [hb];cases rb;simp only at h;subst h;rfl,hab h,hlb⟩;have HAA:=Lib.hid haa;have HAB:=Lib.hid hab;have HLA:=Lib.hid hla;have HLB:=Lib.hid hlb;obtain ⟨q,hq⟩:∃ q,alreadyQ ra rb a b=q:=⟨_,rfl⟩;rw [hq];obtain ⟨q1,q2⟩:=q;have HQ:=Lib.hid hq;clear hR hK ha hb hla hlb haa hab hB0 hq;go_enter Tryz.func6,Tryz.ntmps6;go_wp2_with fail;refine HX.out.mono ?_;rintro e w1 ⟨h1,h2,h3,hb1⟩;have hB1:=HB0.out.trans (hb1.mono HB0.out.size);have HB1:=Lib.hid hB1;by_cases ca:ra.2=0
 ·by_cases cb:rb.2=0
  ·obtain ⟨p,M,ids,rfl,hM,hS⟩:=h3 ca cb;have hNM:N≤M:=by have:=HB0.out.size;omega
   have HUA:=Lib.hid (HUP.out w1 p M ids a hNM hS (HGA.out ca));have hML:=hS.lt;have hMB:w.heap.size≤M:=by have:=HB0.out.size;omega
   clear h1 h2 h3 hb1 hB1 HX hS;have hga:=HAA.out ca;have hgb:=HAB.out cb;have hq1:Lib.containsS (sortB ra.1) b=true→(q1,q2)=(1,0):=fun h=>by rw [← HQ.out];simp [alreadyQ,ca,cb,h]
   have hq2:Lib.containsS (sortB ra.1) b=false→Lib.containsS (sortB rb.1) a=true→(q1,q2)=(2,0):=fun h h2=>by rw [← HQ.out];simp [alreadyQ,ca,cb,h,h2]
   have hq3:Lib.containsS (sortB ra.1) b=false→Lib.containsS (sortB rb.1) a=false→(q1,q2)=(0,0):=fun h h2=>by rw [← HQ.out];simp [alreadyQ,ca,cb,h,h2]
   have HQ1:=Lib.hid hq1;have HQ2:=Lib.hid hq2;have HQ3:=Lib.hid hq3;have HGAA:=Lib.hid hga;have HGBB:=Lib.hid hgb;clear hq1 hq2 hq3 hga hgb;go_wp2_with fail;refine HUA.out.mono ?_;rintro e w2 ⟨v,ids2,rfl,⟨A,cp,rfl,hcp,hC⟩,hS2,hg2,_⟩;have HB2:=Lib.hid (HB1.out.trans (below_grown hg2 hMB hML));have hML2:=hS2.lt;have HUB:=Lib.hid (HUP.out w2 p M ids2 b hNM hS2 (HGB.out cb));rw [HGAA.out] at hC hcp;have HBS:=Lib.hid (bs_any A cp (sortB ra.1) b w2 hC (by rw [sortB_length];have:=HLA.out;omega) (rises_sortB _));clear hC hcp hS2 hg2 HUA;rw [HGAA.out];go_wp2_with fail;refine HBS.out.mono ?_;rintro e w3 ⟨pp,rfl,rfl⟩;clear HBS;cases hc1:Lib.containsS (sortB ra.1) b with
   | true =>
    obtain ⟨rfl,rfl⟩:=Prod.mk.inj (HQ1.out hc1);clear HUB HQ HQ1 HQ2 HQ3;go_wp2;refine bodyPost_ret (results_tmp2 rfl _ _ _) rfl ?_;exact ⟨rfl,HB2.out⟩
   | false =>
    go_wp2_with fail;refine HUB.out.mono ?_;rintro e w4 ⟨v,ids4,rfl,⟨A4,cp4,rfl,hcp4,hC4⟩,hS4,hg4,_⟩;have HB4:=Lib.hid (HB2.out.trans (below_grown hg4 hMB hML2));rw [HGBB.out] at hC4 hcp4;have HBS:=Lib.hid (bs_any A4 cp4 (sortB rb.1) a w4 hC4 (by rw [sortB_length];have:=HLB.out;omega) (rises_sortB _));clear hC4 hcp4 hS4 hg4 HUB;rw [HGBB.out];go_wp2_with fail;refine HBS.out.mono ?_;rintro e w5 ⟨pp2,rfl,rfl⟩;clear HBS;cases hc2:Lib.containsS (sortB rb.1) a with
    | true =>
     obtain ⟨rfl,rfl⟩:=Prod.mk.inj (HQ2.out hc1 hc2);clear HQ HQ1 HQ2 HQ3;go_wp2;refine bodyPost_ret (results_tmp2 rfl _ _ _) rfl ?_;exact ⟨rfl,HB4.out⟩
    | false =>
     obtain ⟨rfl,rfl⟩:=Prod.mk.inj (HQ3.out hc1 hc2);clear HQ HQ1 HQ2 HQ3;go_wp2;refine bodyPost_ret (results_tmp2 rfl _ _ _) rfl ?_;exact ⟨rfl,HB4.out⟩
  ·obtain rfl:=h2 ca cb;have ceb:(rb.2 != 0)=true:=by simp [cb]
   have hq:(q1,q2)=(0,rb.2):=by rw [← HQ.out];simp [alreadyQ,ca,cb]
   obtain ⟨rfl,rfl⟩:=Prod.mk.inj hq;clear h1 h2 h3 hb1 hB1 HX HUP HGA HGB HQ hq;go_wp2;refine bodyPost_ret (results_tmp2 rfl _ _ _) rfl ?_;exact ⟨rfl,HB1.out⟩
 ·obtain rfl:=h1 ca;have ceb:(ra.2 != 0)=true:=by simp [ca]
  have hq:(q1,q2)=(0,ra.2):=by rw [← HQ.out];simp [alreadyQ,ca]
  obtain ⟨rfl,rfl⟩:=Prod.mk.inj hq;clear h1 h2 h3 hb1 hB1 HX HUP HGA HGB HQ hq;go_wp2;refine bodyPost_ret (results_tmp2 rfl _ _ _) rfl ?_;exact ⟨rfl,HB1.out⟩
end Go.Proofs.YtninnmdpnoebaaaGreatDoor.Hand
end
section
namespace Go.Proofs.YtninnmdpnoebaaaGreatDoor.Hand
open Go.RowKit Go.Proofs.YtninnmdpnoebaaaGreatDoorW.PrintWords Go.Proofs.YtninnmdpnoebaaaGreatDoorW.PrintLast Go.Proofs.YtninnmdpnoebaaaGreatDoorW.PrintMore
open Go.Proofs.YtninnmdpnoebaaaGreatDoor.PRa
set_option linter.unusedVariables false
set_option linter.unusedSimpArgs false
def AllEnd (r:List ByteArray × Int) (w:World) (e:Ending) (w':World):Prop:=∃ A c rs,e=.returned (.tuple #[.slice A rs.length c,.int .i64 r.2])∧rs.length≤c∧rs.length≤1000000∧(r.2=0→(∀ x,x∈rs↔x∈r.1)∧Kd.string.C w' A rs.length rs)∧Below w.heap.size w w'
set_option maxHeartbeats 8000000 in
set_option maxRecDepth 100000 in
theorem all22_any (K:World→Prop) (N:Nat) (s0 s1 s2 s3:Value) (o0:s0.oneCell'=true) (o1:s1.oneCell'=true) (o2:s2.oneCell'=true) (o3:s3.oneCell'=true) (rd:RdQ) (hR:Reads22 K (.agg #[s0,s1,s2,s3]) rd) (hK:∀ w w',K w→Below N w w'→K w') (n:Nat)
  (a:ByteArray) (g1:Nat) (w:World) (hN:N≤w.heap.size) (hKw:K w) (hc:w.cell? ⟨g1,0,none⟩=some (.string a)) (r:List ByteArray × Int) (hf:foldQ (visitQ rd n) [] [a]=some r) (hrl:r.1.length≤1000000) :
  Calls Tryz.prog 26 #[.agg #[s0,s1,s2,s3],.slice (some ⟨g1,0,none⟩) 1 1] w fun e w'=>AllEnd r w e w':=by
 have hg1:g1 < w.heap.size:=World.block_lt_of_cell? w _ hc;generalize hw2:(w.alloc (.cells #[s0,s1,s2,s3] 29)).alloc (.cells #[.slice none 0 0,.slice none 0 0,.slice none 0 0] 100)=w2;have hz1:(w.alloc (.cells #[s0,s1,s2,s3] 29)).heap.size=w.heap.size+1:=Array.size_push _;have hb2:Below w.heap.size w w2:=by rw [← hw2];exact ((Below.refl _ w).alloc (Nat.le_refl _) _).alloc (by omega) _
 have kv:w2.heap[w.heap.size]? = some (.cells #[s0,s1,s2,s3] 29 (0,0)):=by rw [← hw2,heap_alloc_old _ _ (by omega)];exact heap_alloc_new _ _
 have kg:w2.heap[w.heap.size+1]? = some (.cells #[.slice none 0 0,.slice none 0 0,.slice none 0 0] 100 (0,0)):=by rw [← hw2,← hz1];exact heap_alloc_new _ _
 have hQ:GQ w2 w.heap.size (w.heap.size+1) (.slice none 0 0) (.slice none 0 0) (.slice none 0 0) [] [] []:=⟨kg,Kd.R_nil _ _ _ _ _,Kd.R_nil _ _ _ _ _,Kd.R_nil _ _ _ _ _,by omega⟩;have hT:Txg w2 (w.heap.size+1) (.slice none 0 0) (.slice none 0 0) (.slice none 0 0) (some ⟨g1,0,none⟩) [a]:=fun j hj=>by
  have:j=0:=by simpa using hj
  subst this;exact ⟨_,rfl,by show g1≠_;omega,by simp [Value.ownBlock],by simp [Value.ownBlock],by simp [Value.ownBlock],(hb2.cell (p:=⟨g1,0,none⟩) hg1).trans hc⟩
 have HX:=Lib.hid (visit22_any K w.heap.size s0 s1 s2 s3 o0 o1 o2 o3 rd hR (fun w w' hk hb=>hK w w' hk (hb.mono hN)) n (w.heap.size+1) _ _ _ [] [] [] (some ⟨g1,0,none⟩) 1 [a] w2 r (hK _ _ hKw (hb2.mono hN)) hQ rfl rfl hrl (by simp) hT hf);have HB2:=Lib.hid hb2;have HQ:=Lib.hid hQ;have HW2:=Lib.hid hw2;obtain ⟨ks,kr,hks,hkz,hkm⟩:=sorted_law r.1 hrl;have e0:w2.cell? ⟨w.heap.size,0,none⟩=some s0:=by rw [blk_cell kv 0];rfl
 have e1:w2.cell? ⟨w.heap.size,1,none⟩=some s1:=by rw [blk_cell kv 1];rfl
 have e2:w2.cell? ⟨w.heap.size,2,none⟩=some s2:=by rw [blk_cell kv 2];rfl
 have e3:w2.cell? ⟨w.heap.size,3,none⟩=some s3:=by rw [blk_cell kv 3];rfl
 have HKS:=Lib.hid hks;have HKM:=Lib.hid hkm;clear hR hK hKw hf hb2 hQ hT hw2 kv kg hks hkm hc;go_enter Tryz.func26,Tryz.ntmps26;go_upto_region 2 with (fail);rw [HW2.out];go_wp2_with fail;refine HX.out.mono ?_;rintro e w3 ⟨rfl,⟨xI,xU,xT,us,ts,hQ3,hu3,ht3,hM3⟩⟩;have HB3:=Lib.hid (HB2.out.trans (HQ.out.below hM3));obtain ⟨AI,cI,rfl⟩:=Kd.R_slice hQ3.I;have hrI:=Kd.R_reads' hQ3.I;have c0:=hQ3.cells.1;clear e0 e1 e2 e3 HX HW2;by_cases he:r.2=0
 ·have heb:(r.2 != 0)=false:=by simp [he]
  have HS:=Lib.hid (g17Sorted.calls ks AI cI r.1 kr w3 hrI.2.2 hrI.2.1 HKS.out);clear hQ3 hM3 hrI;go_wp2_with fail;refine HS.out.mono ?_;rintro e w4 ⟨v,rfl,hR4,hb4⟩;obtain ⟨A4,c4,rfl⟩:=Kd.R_slice hR4;have hr4:=Kd.R_reads' hR4;have HR4:=Lib.hid hr4;have HB4:=Lib.hid (HB3.out.trans (hb4.mono HB3.out.size));clear hR4 hr4 hb4 HS c0;go_wp2;refine bodyPost_ret (results_tmp2 rfl _ _ _) rfl ?_;exact ⟨A4,c4,kr,by rw [he];rfl,HR4.out.2.1,by omega,fun _=>⟨HKM.out,HR4.out.2.2⟩,HB4.out⟩
 ·have heb:(r.2 != 0)=true:=by simp [he]
  clear hQ3 hM3 hrI c0;go_wp2;refine bodyPost_ret (results_tmp2 rfl _ _ _) rfl ?_;exact ⟨none,0,[],rfl,Nat.le_refl _,Nat.zero_le _,fun h=>absurd h he,HB3.out⟩
def ParEnd (er:Int) (w:World) (e:Ending) (w':World):Prop:=∃ A m c,e=.returned (.tuple #[.slice A m c,.int .i64 er])∧Below w.heap.size w w'
section
set_option maxHeartbeats 8000000 in
set_option maxRecDepth 100000 in
theorem parents22_any (K:World→Prop) (N:Nat) (s0 s1 s2 s3:Value) (rd:RdQ) (hR:Reads22 K (.agg #[s0,s1,s2,s3]) rd) (hK:∀ w w',K w→Below N w w'→K w') (a:ByteArray) (w:World) (hN:N≤w.heap.size) (hKw:K w) :
  Calls Tryz.prog 27 #[.agg #[s0,s1,s2,s3],.string a] w fun e w'=>ParEnd (rd a).1 w e w':=by
 have hb1:Below w.heap.size w (w.alloc (.cells #[s0,s1,s2,s3] 29)):=(Below.refl _ w).alloc (Nat.le_refl _) _;have HX:=Lib.hid (hR.run a (w.alloc (.cells #[s0,s1,s2,s3] 29)) (hK _ _ hKw (hb1.mono hN)));have HB1:=Lib.hid hb1;clear hR hK hKw hb1;go_enter Tryz.func27,Tryz.ntmps27;go_wp2_with fail;refine HX.out.mono ?_;rintro e w2 ⟨v,t,p2,c2,a1,a2,a3,a4,b1,b2,b3,b4,x,rfl,rfl,-,hb2⟩;have hb3:Below w2.heap.size w2 (w2.alloc (.cells #[.string t,.slice p2 (rd a).2.length c2,.string a1,.string a2,.int .i64 a3,.int .i64 a4,.string b1,.string b2,.int .i64 b3,.int .i64 b4,.string x] 57)):=(Below.refl _ w2).alloc (Nat.le_refl _) _;have hb2':=HB1.out.trans (hb2.mono HB1.out.size);have HB3:=Lib.hid (hb2'.trans (hb3.mono hb2'.size));have d1:(w2.alloc (.cells #[.string t,.slice p2 (rd a).2.length c2,.string a1,.string a2,.int .i64 a3,.int .i64 a4,.string b1,.string b2,.int .i64 b3,.int .i64 b4,.string x] 57)).cell? ⟨w2.heap.size,1,none⟩=some (.slice p2 (rd a).2.length c2):=(cells11 (heap_alloc_new w2 _)).2.1;clear hb2 hb2' hb3 HX HB1;go_upto_region 2 with (fail);generalize w2.heap.size=g2 at *;generalize w2.alloc (.cells #[.string t,.slice p2 (rd a).2.length c2,.string a1,.string a2,.int .i64 a3,.int .i64 a4,.string b1,.string b2,.int .i64 b3,.int .i64 b4,.string x] 57)=w3 at *;by_cases he:(rd a).1=0
 ·have heb:((rd a).1 != 0)=false:=by simp [he]
  go_wp2;refine bodyPost_ret (results_tmp2 rfl _ _ _) rfl ?_;exact ⟨p2,(rd a).2.length,c2,by rw [he];rfl,HB3.out⟩
 ·have heb:((rd a).1 != 0)=true:=by simp [he]
  go_wp2;refine bodyPost_ret (results_tmp2 rfl _ _ _) rfl ?_;exact ⟨none,0,0,rfl,HB3.out⟩
def IsEnd (b:Bool) (w:World) (e:Ending) (w':World):Prop:=e=.returned (.tuple #[.bool b,.int .i64 0])∧Below w.heap.size w w'
set_option maxHeartbeats 8000000 in
set_option maxRecDepth 100000 in
theorem is22_any (K:World→Prop) (N:Nat) (s0 s1 s2 s3:Value) (o0:s0.oneCell'=true) (o1:s1.oneCell'=true) (o2:s2.oneCell'=true) (o3:s3.oneCell'=true) (rd:RdQ) (hR:Reads22 K (.agg #[s0,s1,s2,s3]) rd) (hK:∀ w w',K w→Below N w w'→K w') (n:Nat) (a b:ByteArray) (w:World) (hN:N≤w.heap.size) (hKw:K w) (ha:(rd a).1=0) (rb:List ByteArray) (hb:foldQ (visitQ rd n) [] [b]=some (rb,0)) (hlb:rb.length≤1000000) :
  Calls Tryz.prog 15 #[.agg #[s0,s1,s2,s3],.string a,.string b] w fun e w'=>IsEnd (Lib.containsS rb a) w e w':=by
 have hb1:Below w.heap.size w (w.alloc (.cells #[s0,s1,s2,s3] 29)):=(Below.refl _ w).alloc (Nat.le_refl _) _;have kv:(w.alloc (.cells #[s0,s1,s2,s3] 29)).heap[w.heap.size]? = some (.cells #[s0,s1,s2,s3] 29 (0,0)):=heap_alloc_new _ _;have HP:=Lib.hid (parents22_any K N s0 s1 s2 s3 rd hR hK a (w.alloc (.cells #[s0,s1,s2,s3] 29)) (by have:=hb1.size;omega) (hK _ _ hKw (hb1.mono hN)));have HA:=Lib.hid (fun wx g1 hNx hKx hc=>all22_any K N s0 s1 s2 s3 o0 o1 o2 o3 rd hR hK n b g1 wx hNx hKx hc (rb,0) hb hlb);have HB1:=Lib.hid hb1;have HKV:=Lib.hid kv;have HKW:=Lib.hid hKw;have HKK:=Lib.hid hK;rw [ha] at HP;have heb:((0:Int) != 0)=false:=rfl;clear hR hK hKw hb1 kv ha hb;go_enter Tryz.func15,Tryz.ntmps15;go_upto_region 1 with (fail);generalize w.alloc (.cells #[s0,s1,s2,s3] 29)=w1 at *;have e0:w1.cell? ⟨w.heap.size,0,none⟩=some s0:=by rw [blk_cell HKV.out 0];rfl
 have e1:w1.cell? ⟨w.heap.size,1,none⟩=some s1:=by rw [blk_cell HKV.out 1];rfl
 have e2:w1.cell? ⟨w.heap.size,2,none⟩=some s2:=by rw [blk_cell HKV.out 2];rfl
 have e3:w1.cell? ⟨w.heap.size,3,none⟩=some s3:=by rw [blk_cell HKV.out 3];rfl
 go_wp2_with fail;refine HP.out.mono ?_;rintro e w2 ⟨A2,m2,c2,rfl,hb2⟩;clear e0 e1 e2 e3;have kv2:=(hb2.block _ (lt_of_block HKV.out)).trans HKV.out;have hB2:=HB1.out.trans (hb2.mono HB1.out.size);have e0:w2.cell? ⟨w.heap.size,0,none⟩=some s0:=by rw [blk_cell kv2 0];rfl
 have e1:w2.cell? ⟨w.heap.size,1,none⟩=some s1:=by rw [blk_cell kv2 1];rfl
 have e2:w2.cell? ⟨w.heap.size,2,none⟩=some s2:=by rw [blk_cell kv2 2];rfl
 have e3:w2.cell? ⟨w.heap.size,3,none⟩=some s3:=by rw [blk_cell kv2 3];rfl
 have hvl:=lt_of_block kv2;have hb3:Below w2.heap.size w2 (w2.alloc (.cells #[.string b] 9)):=(Below.refl _ w2).alloc (Nat.le_refl _) _;have hB3:=hB2.trans (hb3.mono hB2.size);have hc3:(w2.alloc (.cells #[.string b] 9)).cell? ⟨w2.heap.size,0,none⟩=some (.string b):=by rw [Lib.cell_of_heap (heap_alloc_new w2 _)];rfl
 have HX:=Lib.hid (HA.out (w2.alloc (.cells #[.string b] 9)) w2.heap.size (by have:=hB3.size;omega) (HKK.out _ _ HKW.out (hB3.mono hN)) hc3);have HB3:=Lib.hid hB3;clear hb2 kv2 hB2 hb3 hB3 hc3 HP HB1 HKV HA;go_wp2_with fail;refine HX.out.mono ?_;rintro e w4 ⟨A4,c4,rs,rfl,hcc,hrs,hall,hb4⟩;obtain ⟨hmem,hC4⟩:=hall rfl;have HI:=Lib.hid (in17_any A4 c4 rs a w4 hC4 (by omega) hcc);have hcs:Lib.containsS rs a=Lib.containsS rb a:=by
  apply Bool.eq_iff_iff.2;rw [Lib.containsS_iff,Lib.containsS_iff];exact hmem a
 rw [hcs] at HI;have HB4:=Lib.hid (HB3.out.trans (hb4.mono HB3.out.size));clear hmem hC4 hall hb4 HX HB3 hcs e0 e1 e2 e3;go_wp2_with fail;refine HI.out.mono ?_;rintro e w5 ⟨rfl,⟨nd,rfl⟩⟩;have HB5:=Lib.hid (pw_below_drewN HB4.out nd);clear HI HB4;go_wp2;refine bodyPost_ret (results_tmp2 rfl _ _ _) rfl ?_;exact ⟨rfl,HB5.out⟩
def kerr (ra rb:List ByteArray × Int):Int:=if ra.2=0 then rb.2 else ra.2
set_option maxHeartbeats 8000000 in
set_option maxRecDepth 100000 in
theorem known_any (K:World→Prop) (N:Nat) (s0 s1 s2 s3:Value) (o0:s0.oneCell'=true) (o1:s1.oneCell'=true) (o2:s2.oneCell'=true) (o3:s3.oneCell'=true) (rd:RdQ) (hR:Reads22 K (.agg #[s0,s1,s2,s3]) rd) (hK:∀ w w',K w→Below N w w'→K w') (n:Nat) (a b:ByteArray) (w:World) (hN:N≤w.heap.size) (hKw:K w) (ra rb:List ByteArray × Int) (ha:foldQ (visitQ rd n) [] [a]=some ra) (hb:foldQ (visitQ rd n) [] [b]=some rb) (hla:ra.1.length≤1000000) (hlb:rb.1.length≤1000000) :
  Calls Tryz.prog 14 #[.agg #[s0,s1,s2,s3],.string a,.string b] w fun e w'=>e=.returned (.int .i64 (kerr ra rb))∧Below w.heap.size w w':=by
 have hb1:Below w.heap.size w (w.alloc (.cells #[s0,s1,s2,s3] 29)):=(Below.refl _ w).alloc (Nat.le_refl _) _;have kv:(w.alloc (.cells #[s0,s1,s2,s3] 29)).heap[w.heap.size]? = some (.cells #[s0,s1,s2,s3] 29 (0,0)):=heap_alloc_new _ _;have HA:=Lib.hid (fun wx g1 hNx hKx hc=>all22_any K N s0 s1 s2 s3 o0 o1 o2 o3 rd hR hK n a g1 wx hNx hKx hc ra ha hla);have HB:=Lib.hid (fun wx g1 hNx hKx hc=>all22_any K N s0 s1 s2 s3 o0 o1 o2 o3 rd hR hK n b g1 wx hNx hKx hc rb hb hlb);have HB1:=Lib.hid hb1;have HKV:=Lib.hid kv;have HKW:=Lib.hid hKw;have HKK:=Lib.hid hK;clear hR hK hKw hb1 kv ha hb;go_enter Tryz.func14,Tryz.ntmps14;go_upto_region 1 with (fail);generalize w.alloc (.cells #[s0,s1,s2,s3] 29)=w1 at *;have e0:w1.cell? ⟨w.heap.size,0,none⟩=some s0:=by rw [blk_cell HKV.out 0];rfl
 have e1:w1.cell? ⟨w.heap.size,1,none⟩=some s1:=by rw [blk_cell HKV.out 1];rfl
 have e2:w1.cell? ⟨w.heap.size,2,none⟩=some s2:=by rw [blk_cell HKV.out 2];rfl
 have e3:w1.cell? ⟨w.heap.size,3,none⟩=some s3:=by rw [blk_cell HKV.out 3];rfl
 have hvl:=lt_of_block HKV.out;have hb3:Below w1.heap.size w1 (w1.alloc (.cells #[.string a] 9)):=(Below.refl _ w1).alloc (Nat.le_refl _) _;have hB3:=HB1.out.trans (hb3.mono HB1.out.size);have hc3:(w1.alloc (.cells #[.string a] 9)).cell? ⟨w1.heap.size,0,none⟩=some (.string a):=by rw [Lib.cell_of_heap (heap_alloc_new w1 _)];rfl
 have HX:=Lib.hid (HA.out (w1.alloc (.cells #[.string a] 9)) w1.heap.size (by have:=hB3.size;omega) (HKK.out _ _ HKW.out (hB3.mono hN)) hc3);have HB3:=Lib.hid hB3;have HKV3:=Lib.hid ((hb3.block _ hvl).trans HKV.out);clear hb3 hB3 hc3 HA HKV;go_wp2_with fail;refine HX.out.mono ?_;rintro e w4 ⟨A4,c4,rs,rfl,-,-,-,hb4⟩;have HB4:=Lib.hid (HB3.out.trans (hb4.mono HB3.out.size));have HKV4:=Lib.hid ((hb4.block _ (lt_of_block HKV3.out)).trans HKV3.out);clear hb4 HX HB3 HKV3 e0 e1 e2 e3 hvl;by_cases he:ra.2=0
 ·have heb:(ra.2 != 0)=false:=by simp [he]
  have hq:kerr ra rb=rb.2:=if_pos he;have e0:w4.cell? ⟨w.heap.size,0,none⟩=some s0:=by rw [blk_cell HKV4.out 0];rfl
  have e1:w4.cell? ⟨w.heap.size,1,none⟩=some s1:=by rw [blk_cell HKV4.out 1];rfl
  have e2:w4.cell? ⟨w.heap.size,2,none⟩=some s2:=by rw [blk_cell HKV4.out 2];rfl
  have e3:w4.cell? ⟨w.heap.size,3,none⟩=some s3:=by rw [blk_cell HKV4.out 3];rfl
  have hvl:=lt_of_block HKV4.out;have hb5:Below w4.heap.size w4 (w4.alloc (.cells #[.string b] 9)):=(Below.refl _ w4).alloc (Nat.le_refl _) _;have hB5:=HB4.out.trans (hb5.mono HB4.out.size);have hc5:(w4.alloc (.cells #[.string b] 9)).cell? ⟨w4.heap.size,0,none⟩=some (.string b):=by rw [Lib.cell_of_heap (heap_alloc_new w4 _)];rfl
  have HX:=Lib.hid (HB.out (w4.alloc (.cells #[.string b] 9)) w4.heap.size (by have:=hB5.size;omega) (HKK.out _ _ HKW.out (hB5.mono hN)) hc5);have HB5:=Lib.hid hB5;have HQ:=Lib.hid hq;clear hb5 hB5 hc5 HB HKV4 HB4 hq;go_wp2_with fail;refine HX.out.mono ?_;rintro e w6 ⟨A6,c6,rs6,rfl,-,-,-,hb6⟩;have HB6:=Lib.hid (HB5.out.trans (hb6.mono HB5.out.size));clear hb6 HX HB5 e0 e1 e2 e3;go_wp2;refine bodyPost_ret (results_tmp rfl _ _ _) rfl ?_;exact ⟨by rw [HQ.out];rfl,HB6.out⟩
 ·have heb:(ra.2 != 0)=true:=by simp [he]
  have HQ:RowKit.Hid (kerr ra rb=ra.2):=Lib.hid (if_neg he);clear HB HKV4;go_wp2;refine bodyPost_ret (results_tmp rfl _ _ _) rfl ?_;exact ⟨by rw [HQ.out];rfl,HB4.out⟩
end
theorem rd_ok {rd:RdQ} {n:Nat} {b:ByteArray} {rb:List ByteArray} (h:foldQ (visitQ rd n) [] [b]=some (rb,0)):(rd b).1=0:=by
 rw [foldQ] at h;obtain ⟨x,hx,h2⟩:=Option.bind_eq_some_iff.1 h;cases n with
 | zero=>cases hx
 | succ n =>
  rw [visitQ,if_neg (fun h=>absurd ((Lib.containsS_iff _ _).1 h) List.not_mem_nil)] at hx;by_cases c:(rd b).1=0
  ·exact c
  ·rw [if_neg c] at hx;obtain rfl:=Option.some.inj hx;rw [if_neg c] at h2;have:=Option.some.inj h2;exact congrArg Prod.snd this
theorem contains_sortB (ks:List ByteArray) (s:ByteArray):Lib.containsS (sortB ks) s=Lib.containsS ks s:=by
 apply Bool.eq_iff_iff.2;rw [Lib.containsS_iff,Lib.containsS_iff];exact mem_sortB ks s
set_option maxHeartbeats 8000000 in
set_option maxRecDepth 100000 in
theorem already24_any (K:World→Prop) (N:Nat) (s0 s1 s2 s3:Value) (o0:s0.oneCell'=true) (o1:s1.oneCell'=true) (o2:s2.oneCell'=true) (o3:s3.oneCell'=true) (rd:RdQ) (hR:Reads22 K (.agg #[s0,s1,s2,s3]) rd) (hK:∀ w w',K w→Below N w w'→K w') (n:Nat)
  (a b:ByteArray) (w:World) (hN:N≤w.heap.size) (hKw:K w) (ra rb:List ByteArray × Int) (ha:foldQ (visitQ rd n) [] [a]=some ra) (hb:foldQ (visitQ rd n) [] [b]=some rb) (hla:ra.1.length≤1000000) (hlb:rb.1.length≤1000000) :
  Calls Tryz.prog 7 #[.agg #[s0,s1,s2,s3],.string a,.string b] w fun e w'=>e=.returned (.tuple #[.int .i64 (alreadyQ ra rb a b).1,.int .i64 (alreadyQ ra rb a b).2])∧Below w.heap.size w w':=by
 have hb1:Below w.heap.size w (w.alloc (.cells #[s0,s1,s2,s3] 29)):=(Below.refl _ w).alloc (Nat.le_refl _) _;have kv:(w.alloc (.cells #[s0,s1,s2,s3] 29)).heap[w.heap.size]? = some (.cells #[s0,s1,s2,s3] 29 (0,0)):=heap_alloc_new _ _;have HX:=Lib.hid (known_any K N s0 s1 s2 s3 o0 o1 o2 o3 rd hR hK n a b (w.alloc (.cells #[s0,s1,s2,s3] 29)) (by have:=hb1.size;omega) (hK _ _ hKw (hb1.mono hN)) ra rb ha hb hla hlb);have HIS:=Lib.hid (fun (x y:ByteArray) wx hNx hKx hx ry hy hly=>is22_any K N s0 s1 s2 s3 o0 o1 o2 o3 rd hR hK n x y wx hNx hKx hx ry hy hly);have HA:=Lib.hid ha;have HBB:=Lib.hid hb;have HB1:=Lib.hid hb1;have HKV:=Lib.hid kv;have HKW:=Lib.hid hKw;have HKK:=Lib.hid hK;obtain ⟨q,hq⟩:∃ q,alreadyQ ra rb a b=q:=⟨_,rfl⟩;rw [hq];have HQ:=Lib.hid hq;obtain ⟨ka,ea⟩:=ra;obtain ⟨kb,eb⟩:=rb;clear hR hK hKw hb1 kv ha hb hq;go_enter Tryz.func7,Tryz.ntmps7;go_upto_region 1 with (fail);generalize w.alloc (.cells #[s0,s1,s2,s3] 29)=w1 at *;have e0:w1.cell? ⟨w.heap.size,0,none⟩=some s0:=by rw [blk_cell HKV.out 0];rfl
 have e1:w1.cell? ⟨w.heap.size,1,none⟩=some s1:=by rw [blk_cell HKV.out 1];rfl
 have e2:w1.cell? ⟨w.heap.size,2,none⟩=some s2:=by rw [blk_cell HKV.out 2];rfl
 have e3:w1.cell? ⟨w.heap.size,3,none⟩=some s3:=by rw [blk_cell HKV.out 3];rfl
 go_wp2_with fail;refine HX.out.mono ?_;rintro e w2 ⟨rfl,hb2⟩;have kv2:=(hb2.block _ (lt_of_block HKV.out)).trans HKV.out;have HB2:=Lib.hid (HB1.out.trans (hb2.mono HB1.out.size));have HKV2:=Lib.hid kv2;clear hb2 kv2 HX HB1 HKV e0 e1 e2 e3;by_cases hke:kerr (ka,ea) (kb,eb)=0
 ·have hk2:ea=0∧eb=0:=by
   unfold kerr at hke;split at hke
   ·rename_i h;exact ⟨h,hke⟩
   ·rename_i h;exact absurd hke h
  obtain ⟨rfl,rfl⟩:=hk2;rw [hke];clear hke;have hla:ka.length≤1000000:=hla;have hlb:kb.length≤1000000:=hlb;have HIA:=Lib.hid (HIS.out b a w2 (by have:=HB2.out.size;omega) (HKK.out _ _ HKW.out (HB2.out.mono hN)) (rd_ok HBB.out) ka HA.out hla);have e0:w2.cell? ⟨w.heap.size,0,none⟩=some s0:=by rw [blk_cell HKV2.out 0];rfl
  have e1:w2.cell? ⟨w.heap.size,1,none⟩=some s1:=by rw [blk_cell HKV2.out 1];rfl
  have e2:w2.cell? ⟨w.heap.size,2,none⟩=some s2:=by rw [blk_cell HKV2.out 2];rfl
  have e3:w2.cell? ⟨w.heap.size,3,none⟩=some s3:=by rw [blk_cell HKV2.out 3];rfl
  go_wp2_with fail;refine HIA.out.mono ?_;rintro e w3 ⟨rfl,hb3⟩;have kv3:=(hb3.block _ (lt_of_block HKV2.out)).trans HKV2.out;have HB3:=Lib.hid (HB2.out.trans (hb3.mono HB2.out.size));have HKV3:=Lib.hid kv3;clear hb3 kv3 HIA HB2 HKV2 e0 e1 e2 e3;cases hc1:Lib.containsS ka b with
  | true =>
   have hq:q=(1,0):=by rw [← HQ.out];simp [alreadyQ,contains_sortB,hc1]
   subst hq;clear HIS HKV3;go_wp2;refine bodyPost_ret (results_tmp2 rfl _ _ _) rfl ?_;exact ⟨rfl,HB3.out⟩
  | false =>
   have HIB:=Lib.hid (HIS.out a b w3 (by have:=HB3.out.size;omega) (HKK.out _ _ HKW.out (HB3.out.mono hN)) (rd_ok HA.out) kb HBB.out hlb);have e0:w3.cell? ⟨w.heap.size,0,none⟩=some s0:=by rw [blk_cell HKV3.out 0];rfl
   have e1:w3.cell? ⟨w.heap.size,1,none⟩=some s1:=by rw [blk_cell HKV3.out 1];rfl
   have e2:w3.cell? ⟨w.heap.size,2,none⟩=some s2:=by rw [blk_cell HKV3.out 2];rfl
   have e3:w3.cell? ⟨w.heap.size,3,none⟩=some s3:=by rw [blk_cell HKV3.out 3];rfl
   go_wp2_with fail;refine HIB.out.mono ?_;rintro e w4 ⟨rfl,hb4⟩;have HB4:=Lib.hid (HB3.out.trans (hb4.mono HB3.out.size));clear hb4 HIB HIS HB3 HKV3 e0 e1 e2 e3;cases hc2:Lib.containsS kb a with
   | true =>
    have hq:q=(2,0):=by rw [← HQ.out];simp [alreadyQ,contains_sortB,hc1,hc2]
    subst hq;go_wp2;refine bodyPost_ret (results_tmp2 rfl _ _ _) rfl ?_;exact ⟨rfl,HB4.out⟩
   | false =>
    have hq:q=(0,0):=by rw [← HQ.out];simp [alreadyQ,contains_sortB,hc1,hc2]
    subst hq;go_wp2;refine bodyPost_ret (results_tmp2 rfl _ _ _) rfl ?_;exact ⟨rfl,HB4.out⟩
 ·have hkb:(kerr (ka,ea) (kb,eb) != 0)=true:=by simp [hke]
  have hq:q=(0,kerr (ka,ea) (kb,eb)):=by
   rw [← HQ.out];unfold kerr at hke ⊢;unfold alreadyQ;simp only at hke ⊢;by_cases h:ea=0
   ·rw [if_pos h,if_pos h];rw [if_pos h] at hke;rw [if_neg hke]
   ·rw [if_neg h,if_neg h]
  subst hq;clear HIS HKV2;go_wp2;refine bodyPost_ret (results_tmp2 rfl _ _ _) rfl ?_;exact ⟨rfl,HB2.out⟩
end Go.Proofs.YtninnmdpnoebaaaGreatDoor.Hand
end
section
namespace Go.Proofs.YtninnmdpnoebaaaGreatDoor.Hand
open Go.RowKit Go.Proofs.YtninnmdpnoebaaaGreatDoorW.PrintWords Go.Proofs.YtninnmdpnoebaaaGreatDoorW.PrintLast Go.Proofs.YtninnmdpnoebaaaGreatDoorW.PrintMore
open Go.Proofs.YtninnmdpnoebaaaGreatDoor.PRa
set_option linter.unusedVariables false
set_option linter.unusedSimpArgs false
structure OfS (S met:List ByteArray):Prop where
 one:met.Nodup
 sub:∀ x∈met,x∈S
theorem nodup_le:∀ (m S:List ByteArray),m.Nodup→(∀ x∈m,x∈S)→m.length≤S.length
 | [],S,_,_=>Nat.zero_le _
 | x :: m,S,h1,h2=>by
  have hx:=h2 x List.mem_cons_self;have hn:=List.nodup_cons.1 h1;have ih:=nodup_le m (S.filter (fun y=>decide (y≠x))) hn.2 (fun y hy=>List.mem_filter.2 ⟨h2 y (List.mem_cons_of_mem _ hy),decide_eq_true (fun e=>hn.1 (by rw [← e];exact hy))⟩);have hlt:(S.filter (fun y=>decide (y≠x))).length < S.length:=List.length_filter_lt_length_iff_exists.2 ⟨x,hx,by simp⟩;rw [List.length_cons];omega
theorem OfS.le {S met:List ByteArray} (h:OfS S met):met.length≤S.length:=by
 exact nodup_le met S h.one h.sub
theorem OfS.add {S met:List ByteArray} {x:ByteArray} (h:OfS S met) (hx:x∈S) (hn:¬ x∈met):OfS S (met++[x]):=by
 refine ⟨?_,fun y hy=>?_⟩
 ·rw [List.nodup_append];refine ⟨h.one,List.nodup_cons.2 ⟨by simp,List.nodup_nil⟩,fun a ha b hb=>?_⟩;rw [List.mem_singleton] at hb;subst hb;exact fun e=>hn (e ▸ ha)
 ·rcases List.mem_append.mp hy with h' | h'
  ·exact h.sub y h'
  ·rw [List.mem_singleton.mp h'];exact hx
theorem walk_T (rd:RdQ) (S:List ByteArray) (hS:∀ id,(rd id).1=0→id∈S):∀ (n:Nat) (met:List ByteArray),OfS S met→S.length < met.length+n→∀ ids,∃ r,foldQ (visitQ rd n) met ids=some r∧OfS S r.1∧met.length≤r.1.length:=by
 intro n
 induction n with
 | zero =>
  intro met hm hlt;have:=hm.le;omega
 | succ n ih =>
  intro met hm hlt ids
  induction ids generalizing met with
  | nil=>exact ⟨(met,0),rfl,hm,Nat.le_refl _⟩
  | cons p t iht =>
   rw [foldQ,visitQ];by_cases hc:Lib.containsS met p=true
   ·rw [if_pos hc];simp only [Option.bind_some,if_true];exact iht met hm hlt
   ·rw [if_neg hc];by_cases h0:(rd p).1=0
    ·rw [if_pos h0];have hn:¬ p∈met:=fun h=>hc ((Lib.containsS_iff _ _).2 h);obtain ⟨r,hr,hr1,hr2⟩:=ih (met++[p]) (hm.add (hS p h0) hn) (by rw [List.length_append,List.length_singleton];omega) (rd p).2;rw [hr,Option.bind_some];rw [List.length_append,List.length_singleton] at hr2;by_cases he:r.2=0
     ·rw [if_pos he];obtain ⟨r',h1,h2,h3⟩:=iht r.1 hr1 (by omega);exact ⟨r',h1,h2,by omega⟩
     ·rw [if_neg he];exact ⟨r,rfl,hr1,by omega⟩
    ·rw [if_neg h0];simp only [Option.bind_some,if_neg h0];exact ⟨_,rfl,hm,Nat.le_refl _⟩
theorem readQ_in (l:List S75) (cuts:List ByteArray) (ups:ByteArray→List ByteArray) (id:ByteArray) (h:(readQ l cuts ups id).1=0):id∈l.map (fun x=>x.f0):=by
 unfold readQ at h;by_cases hq:isQ l id=true
 ·have hlt:=isQ_lt hq;have he:(l.getD (placeQ l id) z75).f0=id:=(of_decide_eq_true hq).2;rw [List.getD_eq_getElem?_getD,List.getElem?_eq_getElem hlt,Option.getD_some] at he;rw [← he];exact List.mem_map_of_mem (List.getElem_mem hlt)
 ·rw [if_neg hq] at h;exact absurd h (by decide)
section
variable (A:Option Addr) (c:Nat) (l:List S75) (s1 s2:Value) (Ac:Option Addr) (cc:Nat) (cuts:List ByteArray) (q:Int) (a b:ByteArray)
theorem both_any (hl:l.length≤30) (hcl:cuts.length≤30) (hcA:l.length≤c) (hcC:cuts.length≤cc) (hs:∀ ad,Ac=some ad→ad.spot=none) (h1:s1.oneCell'=true) (h2:s2.oneCell'=true) (hG:∀ x∈l,x.f1=3→∃ u,G16 x.f2 u) :
  ∃ q1 q2:Int,∀ w,Held A l Ac cuts q w →
   Calls Tryz.prog 6 #[.agg #[.slice A l.length c,s1,s2,.slice Ac cuts.length cc],.string a,.string b] w (fun e w'=>e=.returned (.tuple #[.int .i64 q1,.int .i64 q2])∧Below w.heap.size w w') ∧
   Calls Tryz.prog 7 #[.agg #[.slice A l.length c,s1,s2,.slice Ac cuts.length cc],.string a,.string b] w (fun e w'=>e=.returned (.tuple #[.int .i64 q1,.int .i64 q2])∧Below w.heap.size w w'):=by
 have hS:=readQ_in l cuts upsOf;have hz:(l.map (fun x=>x.f0)).length=l.length:=List.length_map _;have h0:OfS (l.map (fun x=>x.f0)) []:=⟨List.nodup_nil,fun x h=>by cases h⟩;obtain ⟨ra,ha,oa,-⟩:=walk_T (readQ l cuts upsOf) _ hS 32 [] h0 (by rw [hz,List.length_nil];omega) [a];obtain ⟨rb,hb,ob,-⟩:=walk_T (readQ l cuts upsOf) _ hS 32 [] h0 (by rw [hz,List.length_nil];omega) [b];have la:=oa.le;have lb:=ob.le;rw [hz] at la lb;refine ⟨(alreadyQ ra rb a b).1,(alreadyQ ra rb a b).2,fun w hH=>⟨?_,?_⟩⟩
 ·have hR:=reads_of w.heap.size A c l s1 s2 Ac cc cuts q upsOf (by omega) (by omega) hs h1 h2 (body_of hG);by_cases hab:a=b
  ·subst hab;have:ra=rb:=Option.some.inj (ha.symm.trans hb);subst this;exact already_any (KW w.heap.size A l Ac cuts q) w.heap.size _ _ _ _ _ hR (fun _ _ h hb=>h.step hb) 32 (fun _=>sortB ra.1) w (Nat.le_refl _) (held_kw hH) a a ra ra ha ha (by omega) (by omega) (fun _=>rfl) (fun _=>rfl)
  ·exact already_any (KW w.heap.size A l Ac cuts q) w.heap.size _ _ _ _ _ hR (fun _ _ h hb=>h.step hb) 32 (fun x=>if x=a then sortB ra.1 else sortB rb.1) w (Nat.le_refl _) (held_kw hH) a b ra rb ha hb (by omega) (by omega) (fun _=>if_pos rfl) (fun _=>if_neg (fun h=>hab h.symm))
 ·have hR:Reads22 (KW w.heap.size A l Ac cuts q) (.agg #[.slice A l.length c,s1,s2,.slice Ac cuts.length cc]) (readQ l cuts upsOf) :=
   ⟨(reads_of w.heap.size A c l s1 s2 Ac cc cuts q upsOf (by omega) (by omega) hs h1 h2 (body_of hG)).small,fun id wx hK=>get22_any w.heap.size A c l s1 s2 Ac cc cuts q upsOf (by omega) (by omega) hs h1 h2 (reads16_of hG) hcA hcC id wx hK⟩
  exact already24_any (KW w.heap.size A l Ac cuts q) w.heap.size _ _ _ _ rfl h1 h2 rfl _ hR (fun _ _ h hb=>h.step hb) 32 a b w (Nat.le_refl _) (held_kw hH) ra rb ha hb (by omega) (by omega)
end
end Go.Proofs.YtninnmdpnoebaaaGreatDoor.Hand
end
section
namespace Go.Proofs.YtninnmdpnoebaaaGreatDoor.Hand
open Go.RowKit Go.Proofs.YtninnmdpnoebaaaGreatDoorW.PrintWords Go.Proofs.YtninnmdpnoebaaaGreatDoorW.PrintLast Go.Proofs.YtninnmdpnoebaaaGreatDoorW.PrintMore
open Go.Proofs.YtninnmdpnoebaaaGreatDoor.PRa
set_option linter.unusedVariables false
set_option linter.unusedSimpArgs false
section
variable (A:Option Addr) (c:Nat) (l:List S75) (A1:Option Addr) (c1:Nat) (l1:List S263) (A2:Option Addr) (c2:Nat) (l2:List S266) (Ac:Option Addr) (cc:Nat) (cuts:List ByteArray) (q:Int) (a b:ByteArray) (w:World)
set_option maxHeartbeats 8000000 in
set_option maxRecDepth 100000 in
theorem law_any (h0:Kd.C k75 w A l.length l) (g0:l.length≤c) (h1:Kd.C k263 w A1 l1.length l1) (g1:l1.length≤c1) (h2:Kd.C k266 w A2 l2.length l2) (g2:l2.length≤c2) (h3:Kd.C Kd.string w Ac cuts.length cuts) (g3:cuts.length≤cc) (hs:∀ ad,Ac=some ad→ad.spot=none) (hq:w.cell? ⟨0,0,none⟩=some (.int .i64 q))
  (HL:∀ wx,Below w.heap.size w wx→Calls Tryz.prog 5 #[] wx fun e w'=>e=.returned (.bool true)∧Below wx.heap.size wx w') :
  Calls Tryz.prog 3 #[.agg #[.slice A l.length c,.slice A1 l1.length c1,.slice A2 l2.length c2,.slice Ac cuts.length cc],.string a,.string b] w fun e w'=>e=.returned (.bool true)∧Below w.heap.size w w':=by
 obtain ⟨r,hr,n,hn⟩:=few_T l l1 l2 cuts;have hn:=hn n (Nat.le_refl _);have hB1:Below w.heap.size w (w.alloc (.cells #[.slice A l.length c,.slice A1 l1.length c1,.slice A2 l2.length c2,.slice Ac cuts.length cc] 29)):=(Below.refl _ w).alloc (Nat.le_refl _) _;have kv:(w.alloc (.cells #[.slice A l.length c,.slice A1 l1.length c1,.slice A2 l2.length c2,.slice Ac cuts.length cc] 29)).heap[w.heap.size]? = some (.cells #[.slice A l.length c,.slice A1 l1.length c1,.slice A2 l2.length c2,.slice Ac cuts.length cc] 29 (0,0)):=heap_alloc_new _ _;have HF:=Lib.hid (graftagelaw24_few.calls n A c l A1 c1 l1 A2 c2 l2 Ac cc cuts r _ (Kd.C_below h0 hB1) g0 (Kd.C_below h1 hB1) g1 (Kd.C_below h2 hB1) g2 (Kd.C_below h3 hB1) g3 hn);have HB1:=Lib.hid hB1;have HKV:=Lib.hid kv;have HLL:=Lib.hid HL;have HH:=Lib.hid (⟨h0,h3,hq⟩:Held A l Ac cuts q w);have HR:=Lib.hid hr;have HG:=Lib.hid (And.intro g0 (And.intro g3 hs));clear hn hr hB1 kv HL h0 h1 h2 h3 g0 g1 g2 g3 hs hq;go_enter Tryz.func3,Tryz.ntmps3;go_upto_region 1 with (fail);generalize w.alloc (.cells #[.slice A l.length c,.slice A1 l1.length c1,.slice A2 l2.length c2,.slice Ac cuts.length cc] 29)=w1 at *;have e0:w1.cell? ⟨w.heap.size,0,none⟩=some (.slice A l.length c):=by rw [blk_cell HKV.out 0];rfl
 have e1:w1.cell? ⟨w.heap.size,1,none⟩=some (.slice A1 l1.length c1):=by rw [blk_cell HKV.out 1];rfl
 have e2:w1.cell? ⟨w.heap.size,2,none⟩=some (.slice A2 l2.length c2):=by rw [blk_cell HKV.out 2];rfl
 have e3:w1.cell? ⟨w.heap.size,3,none⟩=some (.slice Ac cuts.length cc):=by rw [blk_cell HKV.out 3];rfl
 go_wp2_with fail;refine HF.out.mono ?_;rintro e w2 ⟨rfl,hb2⟩;have HB2:=Lib.hid (HB1.out.trans (hb2.mono HB1.out.size));have HKV2:=Lib.hid ((hb2.block _ (lt_of_block HKV.out)).trans HKV.out);clear hb2 HF HB1 HKV e0 e1 e2 e3;cases r with
 | false =>
  have HL2:=Lib.hid (HLL.out w2 HB2.out);clear HLL HH HR HG HKV2;go_wp2_with fail;refine HL2.out.mono ?_;rintro e w3 ⟨rfl,hb3⟩;have HB3:=Lib.hid (HB2.out.trans (hb3.mono HB2.out.size));clear hb3 HL2 HB2;go_wp2;refine bodyPost_ret (results_tmp rfl _ _ _) rfl ?_;exact ⟨rfl,HB3.out⟩
 | true =>
  obtain ⟨hl,hcl,hG⟩:=HR.out rfl;obtain ⟨g0,g3,hs⟩:=HG.out;obtain ⟨q1,q2,hboth⟩:=both_any A c l (.slice A1 l1.length c1) (.slice A2 l2.length c2) Ac cc cuts q a b hl hcl g0 g3 hs rfl rfl hG;have HBO:=Lib.hid hboth;have HPA:=Lib.hid (hboth w2 (HH.out.below HB2.out)).1;clear hl hcl hG g0 g3 hs hboth HR HG;have e0:w2.cell? ⟨w.heap.size,0,none⟩=some (.slice A l.length c):=by rw [blk_cell HKV2.out 0];rfl
  have e1:w2.cell? ⟨w.heap.size,1,none⟩=some (.slice A1 l1.length c1):=by rw [blk_cell HKV2.out 1];rfl
  have e2:w2.cell? ⟨w.heap.size,2,none⟩=some (.slice A2 l2.length c2):=by rw [blk_cell HKV2.out 2];rfl
  have e3:w2.cell? ⟨w.heap.size,3,none⟩=some (.slice Ac cuts.length cc):=by rw [blk_cell HKV2.out 3];rfl
  go_wp2_with fail;refine HPA.out.mono ?_;rintro e w3 ⟨rfl,hb3⟩;have HB3:=Lib.hid (HB2.out.trans (hb3.mono HB2.out.size));have HKV3:=Lib.hid ((hb3.block _ (lt_of_block HKV2.out)).trans HKV2.out);clear hb3 HPA HB2 HKV2 e0 e1 e2 e3;have HPB:=Lib.hid (HBO.out w3 (HH.out.below HB3.out)).2;have e0:w3.cell? ⟨w.heap.size,0,none⟩=some (.slice A l.length c):=by rw [blk_cell HKV3.out 0];rfl
  have e1:w3.cell? ⟨w.heap.size,1,none⟩=some (.slice A1 l1.length c1):=by rw [blk_cell HKV3.out 1];rfl
  have e2:w3.cell? ⟨w.heap.size,2,none⟩=some (.slice A2 l2.length c2):=by rw [blk_cell HKV3.out 2];rfl
  have e3:w3.cell? ⟨w.heap.size,3,none⟩=some (.slice Ac cuts.length cc):=by rw [blk_cell HKV3.out 3];rfl
  go_wp2_with fail;refine HPB.out.mono ?_;rintro e w4 ⟨rfl,hb4⟩;have HB4:=Lib.hid (HB3.out.trans (hb4.mono HB3.out.size));have HL4:=Lib.hid (HLL.out w4 HB4.out);clear hb4 HPB HB3 HKV3 HBO HLL HH e0 e1 e2 e3;go_wp2_with fail;refine HL4.out.mono ?_;rintro e w5 ⟨rfl,hb5⟩;have HB5:=Lib.hid (HB4.out.trans (hb5.mono HB4.out.size));clear hb5 HL4 HB4;go_wp2;refine bodyPost_ret (results_tmp rfl _ _ _) rfl ?_;exact ⟨rfl,HB5.out⟩
end
end Go.Proofs.YtninnmdpnoebaaaGreatDoor.Hand
end
section
namespace Go.Proofs.YtninnmdpnoebaaaGreatDoor.PRa
open Go.Proofs.YtninnmdpnoebaaaGreatDoor.Sq Go.Proofs.YtninnmdpnoebaaaGreatDoor.Hand Go.RowKit Go.Proofs.YtninnmdpnoebaaaGreatDoorW.PrintWords Go.Proofs.YtninnmdpnoebaaaGreatDoorW.PrintLast Go.Proofs.YtninnmdpnoebaaaGreatDoorW.PrintMore
attribute [local go_sem] max2_int min2_int max_two min_two max_three min_three max_four min_four
set_option linter.unusedVariables false
set_option linter.unusedSimpArgs false
def g17Put.j0:Nat→ByteArray→Bool→List (S75)→Option ((List (S75)) × ByteArray × Int)
 | 0,_,_,_=>none
 | k+1,e,d,a=>if d=true then (some (([]:List (S75)),(⟨#[]⟩:ByteArray),170)) else (some (a,e,0))
def g17Put.f (k:Nat) (d:List (S75)) (h:Int) (i:ByteArray):Option ((List (S75)) × ByteArray × Int):=(g16Whole.f k h i).bind fun j=>(if j=0 then ((g14Id.f k h i).bind fun e=>((g17Place.f k d e).bind fun a=>(if a.2=true then (if 0≤a.1 then (if a.1 < (d.length:Int) then (if ((rd_T75 d a.1).f1)=h then (g17Put.j0 k e (((rd_T75 d a.1).f2).toList != i.toList) d) else (g17Put.j0 k e true d)) else (none)) else (none)) else (if (d.length:Int)≥65536 then (some (([]:List (S75)),(⟨#[]⟩:ByteArray),4)) else ((some (([]:List (S75)):List (S75))).bind fun l=>(if 0≤a.1 then (if a.1≤(d.length:Int) then ((some (d.take (a.1:Int).toNat:List (S75))).bind fun q=>(if l.length+q.length < 3518437208883 then ((some (l++q:List (S75))).bind fun r=>(if r.length < 3518437208883 then ((some (r++[(⟨e,h,i⟩:S75)]:List (S75))).bind fun s=>((some (d.drop (a.1:Int).toNat:List (S75))).bind fun t=>(if s.length+t.length < 3518437208883 then (some ((s++t),e,0)) else (none)))) else (none))) else (none))) else (none)) else (none))))))) else (some (([]:List (S75)),(⟨#[]⟩:ByteArray),j)))
set_option maxHeartbeats 8000000 in
set_option maxRecDepth 100000 in
theorem g17Put.calls (k:Nat) (x:Nat→Prop) (aj:Value) (j:List (S75)) (t:Int) (r:ByteArray) (r1:List (S75)) (r2:ByteArray) (r3:Int) (w0 w:World) (hB:Below w0.heap.size w0 w) (bg:Kd.R k75 75 w w0.heap.size x aj j) (h:g17Put.f k j t r=some (r1,r2,r3)) :
  Calls Tryz.prog 20 #[.agg #[aj],.agg #[.int .i64 t,.string r]] w fun e w'=>∃ bs:Value,e=.returned (.tuple #[.agg #[bs],.string r2,.int .i64 r3])∧Kd.R k75 75 w' w0.heap.size (fun k_=>(x k_∨w.heap.size≤k_)) bs r1∧Below w0.heap.size w0 w'∧Kept w w' (fun k_=>x k_):=by
 have cS:=Tryz.underlying24;have cT:=Tryz.underlying60;have cU:=Tryz.underlying75;have a:=Aside0.mk (show Kd.R k75 75 w w0.heap.size (fun k_=>(x k_∨w.heap.size≤k_)) aj j from Kd.R_mono bg (fun k_ hk=>(.inl hk)));have HK:=Aside0.mk (Kept.refl w (fun k_=>x k_));have HW0:=Aside0.mk hB.size;have HB:=Aside0.mk hB;clear hB;have H:((g16Whole.f k t r).bind fun ab=>(if ab=0 then ((g14Id.f k t r).bind fun s=>((g17Place.f k j s).bind fun T=>(if T.2=true then (if 0≤T.1 then (if T.1 < (j.length:Int) then (if ((rd_T75 j T.1).f1)=t then (g17Put.j0 k s (((rd_T75 j T.1).f2).toList != r.toList) j) else (g17Put.j0 k s true j)) else (none)) else (none)) else (if (j.length:Int)≥65536 then (some (([]:List (S75)),(⟨#[]⟩:ByteArray),4)) else ((some (([]:List (S75)):List (S75))).bind fun Q=>(if 0≤T.1 then (if T.1≤(j.length:Int) then ((some (j.take (T.1:Int).toNat:List (S75))).bind fun F=>(if Q.length+F.length < 3518437208883 then ((some (Q++F:List (S75))).bind fun J=>(if J.length < 3518437208883 then ((some (J++[(⟨s,t,r⟩:S75)]:List (S75))).bind fun G=>((some (j.drop (T.1:Int).toNat:List (S75))).bind fun u=>(if G.length+u.length < 3518437208883 then (some ((G++u),s,0)) else (none)))) else (none))) else (none))) else (none)) else (none))))))) else (some (([]:List (S75)),(⟨#[]⟩:ByteArray),ab))))=some (r1,r2,r3):=h;clear h;replace H:=zbd H;obtain ⟨ab,A3,H⟩:=H;replace H:=zbb H;rcases H with ⟨a7,a8,H⟩ | ⟨c4,a7,a8,H⟩
 ·replace H:=zbd H;obtain ⟨s,A5,H⟩:=H;replace H:=zbd H;obtain ⟨⟨q,bw⟩,A6,H⟩:=H;dsimp only at H;by_cases c7:bw=true
  ·subst c7;have H1:(if 0≤q then (if q < (j.length:Int) then (if ((rd_T75 j q).f1)=t then (g17Put.j0 k s (((rd_T75 j q).f2).toList != r.toList) j) else (g17Put.j0 k s true j)) else (none)) else (none))=some (r1,r2,r3):=by rw [if_pos rfl] at H;exact H
   clear H;have H:=H1;clear H1;have ba:=Aside0.mk H;clear H;obtain ⟨aM,aN,bT⟩:=Kd.R_slice a.out;subst bT;go_enter Tryz.func20,Tryz.ntmps20;go_upto_region 7 with (first | ((with_reducible refine zgd 2 ?_);refine zBx 2 #[.slice aM j.length aN] 24 ?_;intro U hg dl hbox hb;replace a:=Aside0.mk (Kd.R_below (zR a) hb);have d:=Aside0.mk (hbox);have ap:=zGW HK hg;replace HK:=zkk HK hb;have aq:=zGE HB hg;replace HB:=zbs HB hb;clear hb hbox hg) | ((with_reducible refine zgd 3 ?_);refine zBx 3 #[.int .i64 t,.string r] 60 ?_;intro V hg dm hbox hb;replace a:=Aside0.mk (Kd.R_below (zR a) hb);have i:=Aside0.mk (hbox);have ar:=zGW HK hg;replace HK:=zkk HK hb;have au:=zGE HB hg;replace HB:=zbs HB hb;have D:=zNl d hg;have E:=zNg d hg;replace d:=zkb d hb;clear hb hbox hg) | ((with_reducible refine zgd 4 ?_);refine zBx 4 #[.slice none 0 0] 24 ?_;intro I hg dn hbox hb;replace a:=Aside0.mk (Kd.R_below (zR a) hb);have l:=Aside0.mk (hbox);have av:=zGW HK hg;replace HK:=zkk HK hb;have aw:=zGE HB hg;replace HB:=zbs HB hb;have y:=zNl d hg;have z:=zNg d hg;replace d:=zkb d hb;have A:=zNl i hg;have B:=zNg i hg;replace i:=zkb i hb;clear hb hbox hg;have b0:=E.out;have b1:=D.out;have b2:=A.out;have b3:=B.out;have bz:=zF2 i) | (go_at_call 30;(with_reducible refine (g16Whole.calls k t r ab _ A3.out).mono ?_);rintro e dp ⟨rfl,hb⟩;replace a:=Aside0.mk (Kd.R_below (zR a) hb);replace d:=zkb d hb;replace i:=zkb i hb;replace l:=zkb l hb;replace HK:=zkk HK hb;replace HB:=zbs HB hb;clear hb;have bA:=zF2 i) | (go_at_call 31;(with_reducible refine (g14Id.calls k t r s _ A5.out).mono ?_);rintro e dq ⟨rfl,hb⟩;replace a:=Aside0.mk (Kd.R_below (zR a) hb);replace d:=zkb d hb;replace i:=zkb i hb;replace l:=zkb l hb;replace HK:=zkk HK hb;replace HB:=zbs HB hb;clear hb;have b4:=y.out;have b5:=z.out;have bB:=zF1 d) | (go_at_call 36;(with_reducible refine (g17Place.calls k _ _ j s q true _ ?side1 ?side2 A6.out).mono ?_);(case side1=>repeat (first | exact (Kd.R_reads' a.out).2.2 | (with_reducible refine Kd.C_alloc ?_ _) | (with_reducible refine Kd.C_drewN ?_ _) | (with_reducible refine Kd.C_drew ?_)));(case side2=>exact (Kd.R_reads' a.out).2.1);rintro e w' ⟨rfl,⟨nd,rfl⟩⟩;(try first | exact ⟨rfl,_,World.drewN_drewN _ _ _⟩ | exact ⟨rfl,_,Eq.trans (World.drewN_drewN _ _ _) (congrArg (World.drewN _) (Nat.add_assoc _ _ _))⟩)));(try simp only [Act.put,List.setIfInBounds_toArray,List.set_cons_zero,List.set_cons_succ]);go_cut [47] (fun bU wc=>∃ (kq:Nat) (ai:Bool),bU=.bool ai∧Aside0 (g17Put.j0 kq s ai j=some (r1,r2,r3))∧Aside0 (kq≤k)∧Aside0 (Kd.R k75 75 wc w0.heap.size (fun k_=>(x k_∨w.heap.size≤k_)) (.slice aM j.length aN) j)∧Aside0 (wc.heap[U]? = some (.cells #[(.slice aM j.length aN)] 24 (0,0)))∧Aside0 (wc.heap[V]? = some (.cells #[.int .i64 t,.string r] 60 (0,0)))∧Aside0 (wc.heap[I]? = some (.cells #[(.slice none 0 0)] 24 (0,0)))∧Aside0 (Kept w wc (fun k_=>x k_))∧Aside0 (Below w0.heap.size w0 wc))
   case first =>
    have H:=ba.out;clear ba;replace H:=zdn H;obtain ⟨ax,H⟩:=H;(first | rw [ax] | (simp only [i64_w,i32_w];rw [ax]) | skip);replace H:=zdn H;obtain ⟨bi,H⟩:=H;replace H:=zbb H;rcases H with ⟨aY,aZ,H⟩ | ⟨bV,aY,aZ,H⟩
    ·have H':=Aside0.mk H;clear H;have b6:=D.out;have b7:=E.out;have b8:=y.out;have b9:=z.out;have bC:=zF1 d;have W:0≤(q:Int):=zD;have X:q < (j.length:Int):=zD;obtain ⟨a0,aT,am,an,ao⟩:=at_T75 (Kd.R_reads' a.out).2.2 q W X;cases aT;replace W:=eq_true W;replace X:=eq_true X;have ca:=A.out;have cb:=B.out;have bD:=zF2 i;have ay:0≤(q:Int):=zD;have az:q < (j.length:Int):=zD;obtain ⟨bj,bE,a4,a5,a6⟩:=at_T75 (Kd.R_reads' a.out).2.2 q ay az;obtain rfl:a0=bj:=(by injection bE);replace ay:=eq_true ay;replace az:=eq_true az;go_wp2;(repeat (go_quiet (fail);try go_wp2));go_meet
     case rel=>exact ⟨_,((((rd_T75 j q).f2).toList != r.toList)),zE,H',⟨by first | omega | exact Nat.le_refl _⟩,⟨(zR a)⟩,⟨(zb d)⟩,⟨(zb i)⟩,⟨(zb l)⟩,⟨(zK HK)⟩,⟨zB⟩⟩
    ·have H':=Aside0.mk H;clear H;have cc:=D.out;have cd:=E.out;have ce:=y.out;have cf:=z.out;have bF:=zF1 d;have W:0≤(q:Int):=zD;have X:q < (j.length:Int):=zD;obtain ⟨a0,aT,am,an,ao⟩:=at_T75 (Kd.R_reads' a.out).2.2 q W X;cases aT;replace W:=eq_true W;replace X:=eq_true X;have cg:=A.out;have ch:=B.out;have bG:=zF2 i;go_wp2;(repeat (go_quiet (fail);try go_wp2));go_meet
     case rel=>exact ⟨_,(true),zE,H',⟨by first | omega | exact Nat.le_refl _⟩,⟨(zR a)⟩,⟨(zb d)⟩,⟨(zb i)⟩,⟨(zb l)⟩,⟨(zK HK)⟩,⟨zB⟩⟩
   case rest =>
    clear ba a7 a8 bz bA bB;obtain ⟨kq,ai,rfl,HA,dF,aQ,d,i,l,HK,HB⟩:=hcut;cases kq with
    | zero=>exact absurd HA.out (by simp [g17Put.j0])
    | succ kj7 =>
     have H:=HA.out;clear HA;simp only [g17Put.j0] at H;by_cases a1:ai=true
     ·subst a1;have H1:(some (([]:List (S75)),(⟨#[]⟩:ByteArray),170))=some (r1,r2,r3):=by rw [if_pos rfl] at H;exact H
      clear H;have H:=H1;clear H1;simp only [Option.some.injEq,Prod.mk.injEq] at H;obtain ⟨rfl,rfl,rfl⟩:=H;have ci:=z.out;have cj:=y.out;have ck:=B.out;have cl:=A.out;have cW:=zF1 l;go_wp2;refine bodyPost_ret (results_ctt rfl _ _ I 24 #[.slice none 0 0] (0,0) _ rfl (zc l) Tryz.underlying24 rfl (by kernel_rfl)) rfl ?_;exact ⟨_,zW,by first | exact Kd.R_nil _ _ _ _ _ | exact Kd.N_nil _ _ _ _ _ | exact Kd.V_nil _ _ _ _ _ | exact Kd.Q_nil _ _ _ _ _ | exact Kd.S_nil _ _ _ _ _,zB,(zK HK)⟩
     ·replace a1:=Bool.eq_false_iff.mpr a1;subst a1;have H1:(some (j,s,0))=some (r1,r2,r3):=by rw [if_neg (show ¬ (false=true) by decide)] at H;exact H
      clear H;have H:=H1;clear H1;simp only [Option.some.injEq,Prod.mk.injEq] at H;obtain ⟨rfl,rfl,rfl⟩:=H;have cm:=D.out;have cn:=E.out;have co:=y.out;have cp:=z.out;have cX:=zF1 d;have cq:=B.out;have cr:=A.out;have cY:=zF1 l;go_wp2;refine bodyPost_ret (results_ctt rfl _ _ I 24 #[.slice aM j.length aN] (0,0) _ rfl (zc l) Tryz.underlying24 rfl (by kernel_rfl)) rfl ?_;exact ⟨_,zW,by (with_reducible repeat (first | apply Kd.R_alloc | apply Kd.R_drewN | apply Kd.R_drew));exact Kd.R_mono (Kd.R_far (p:=⟨I,0,none⟩) (Kd.R_types aQ.out l.out (by decide)) (fun _ hk=>hk.2) (.slice aM j.length aN)) (fun _ hk=>hk.1),zB,(zK HK)⟩
  ·replace c7:=Bool.eq_false_iff.mpr c7;subst c7;have H1:(if (j.length:Int)≥65536 then (some (([]:List (S75)),(⟨#[]⟩:ByteArray),4)) else ((some (([]:List (S75)):List (S75))).bind fun Q=>(if 0≤q then (if q≤(j.length:Int) then ((some (j.take (q:Int).toNat:List (S75))).bind fun F=>(if Q.length+F.length < 3518437208883 then ((some (Q++F:List (S75))).bind fun J=>(if J.length < 3518437208883 then ((some (J++[(⟨s,t,r⟩:S75)]:List (S75))).bind fun G=>((some (j.drop (q:Int).toNat:List (S75))).bind fun u=>(if G.length+u.length < 3518437208883 then (some ((G++u),s,0)) else (none)))) else (none))) else (none))) else (none)) else (none))))=some (r1,r2,r3):=by rw [if_neg (show ¬ (false=true) by decide)] at H;exact H
   clear H;have H:=H1;clear H1;replace H:=zdg H;rcases H with ⟨bb,bk,H⟩ | ⟨bb,bk,H⟩
   ·have bl:decide (65536≤j.length)=true:=decide_eq_true (by omega);clear bb;simp only [Option.some.injEq,Prod.mk.injEq] at H;obtain ⟨rfl,rfl,rfl⟩:=H;obtain ⟨bH,bI,bJ⟩:=Kd.R_slice a.out;subst bJ;go_enter Tryz.func20,Tryz.ntmps20;go_wp2_with (first | ((with_reducible refine zgd 2 ?_);refine zBx 2 #[.slice bH j.length bI] 24 ?_;intro U hg dG hbox hb;replace a:=Aside0.mk (Kd.R_below (zR a) hb);have d:=Aside0.mk (hbox);have ap:=zGW HK hg;replace HK:=zkk HK hb;have aq:=zGE HB hg;replace HB:=zbs HB hb;clear hb hbox hg) | ((with_reducible refine zgd 3 ?_);refine zBx 3 #[.int .i64 t,.string r] 60 ?_;intro V hg dH hbox hb;replace a:=Aside0.mk (Kd.R_below (zR a) hb);have i:=Aside0.mk (hbox);have ar:=zGW HK hg;replace HK:=zkk HK hb;have au:=zGE HB hg;replace HB:=zbs HB hb;have D:=zNl d hg;have E:=zNg d hg;replace d:=zkb d hb;clear hb hbox hg) | ((with_reducible refine zgd 4 ?_);refine zBx 4 #[.slice none 0 0] 24 ?_;intro I hg dI hbox hb;replace a:=Aside0.mk (Kd.R_below (zR a) hb);have l:=Aside0.mk (hbox);have av:=zGW HK hg;replace HK:=zkk HK hb;have aw:=zGE HB hg;replace HB:=zbs HB hb;have y:=zNl d hg;have z:=zNg d hg;replace d:=zkb d hb;have A:=zNl i hg;have B:=zNg i hg;replace i:=zkb i hb;clear hb hbox hg;have cs:=E.out;have ct:=D.out;have cu:=A.out;have cv:=B.out;have cZ:=zF2 i) | (go_at_call 30;(with_reducible refine (g16Whole.calls k t r ab _ A3.out).mono ?_);rintro e dJ ⟨rfl,hb⟩;replace a:=Aside0.mk (Kd.R_below (zR a) hb);replace d:=zkb d hb;replace i:=zkb i hb;replace l:=zkb l hb;replace HK:=zkk HK hb;replace HB:=zbs HB hb;clear hb;have c0:=zF2 i) | (go_at_call 31;(with_reducible refine (g14Id.calls k t r s _ A5.out).mono ?_);rintro e dK ⟨rfl,hb⟩;replace a:=Aside0.mk (Kd.R_below (zR a) hb);replace d:=zkb d hb;replace i:=zkb i hb;replace l:=zkb l hb;replace HK:=zkk HK hb;replace HB:=zbs HB hb;clear hb;have cw:=y.out;have cx:=z.out;have c5:=zF1 d) | (go_at_call 36;(with_reducible refine (g17Place.calls k _ _ j s q false _ ?side1 ?side2 A6.out).mono ?_);(case side1=>repeat (first | exact (Kd.R_reads' a.out).2.2 | (with_reducible refine Kd.C_alloc ?_ _) | (with_reducible refine Kd.C_drewN ?_ _) | (with_reducible refine Kd.C_drew ?_)));(case side2=>exact (Kd.R_reads' a.out).2.1);rintro e w' ⟨rfl,⟨nd,rfl⟩⟩;(try first | exact ⟨rfl,_,World.drewN_drewN _ _ _⟩ | exact ⟨rfl,_,Eq.trans (World.drewN_drewN _ _ _) (congrArg (World.drewN _) (Nat.add_assoc _ _ _))⟩);have c6:=zF1 l));refine bodyPost_ret (results_ctt rfl _ _ I 24 #[.slice none 0 0] (0,0) _ rfl (zc l) Tryz.underlying24 rfl (by kernel_rfl)) rfl ?_;exact ⟨_,zW,by first | exact Kd.R_nil _ _ _ _ _ | exact Kd.N_nil _ _ _ _ _ | exact Kd.V_nil _ _ _ _ _ | exact Kd.Q_nil _ _ _ _ _ | exact Kd.S_nil _ _ _ _ _,zB,(zK HK)⟩
   ·have bl:decide (65536≤j.length)=false:=decide_eq_false (by omega);clear bb;obtain ⟨Q,aA⟩:=zy (α:=List (S75)) (([]:List (S75)));replace H:(if 0≤q then (if q≤(j.length:Int) then ((some (j.take (q:Int).toNat:List (S75))).bind fun F=>(if Q.length+F.length < 3518437208883 then ((some (Q++F:List (S75))).bind fun J=>(if J.length < 3518437208883 then ((some (J++[(⟨s,t,r⟩:S75)]:List (S75))).bind fun G=>((some (j.drop (q:Int).toNat:List (S75))).bind fun u=>(if G.length+u.length < 3518437208883 then (some ((G++u),s,0)) else (none)))) else (none))) else (none))) else (none)) else (none))=some (r1,r2,r3):=zY aA H;have a2:=Aside0.mk aA;clear aA;replace H:=zen H;obtain ⟨cy,cz,H⟩:=H;replace H:=zen H;obtain ⟨cA,cB,H⟩:=H;obtain ⟨F,aC⟩:=zy (α:=List (S75)) (j.take (q:Int).toNat);replace H:(if Q.length+F.length < 3518437208883 then ((some (Q++F:List (S75))).bind fun J=>(if J.length < 3518437208883 then ((some (J++[(⟨s,t,r⟩:S75)]:List (S75))).bind fun G=>((some (j.drop (q:Int).toNat:List (S75))).bind fun u=>(if G.length+u.length < 3518437208883 then (some ((G++u),s,0)) else (none)))) else (none))) else (none))=some (r1,r2,r3):=zY aC H;have af:=Aside0.mk aC;clear aC;replace H:=zan H;obtain ⟨bm,H⟩:=H;obtain ⟨J,aD⟩:=zy (α:=List (S75)) (Q++F);replace H:(if J.length < 3518437208883 then ((some (J++[(⟨s,t,r⟩:S75)]:List (S75))).bind fun G=>((some (j.drop (q:Int).toNat:List (S75))).bind fun u=>(if G.length+u.length < 3518437208883 then (some ((G++u),s,0)) else (none)))) else (none))=some (r1,r2,r3):=zY aD H;have bn:=Aside0.mk aD;clear aD;replace H:=zan H;obtain ⟨bo,H⟩:=H;obtain ⟨G,aE⟩:=zy (α:=List (S75)) (J++[(⟨s,t,r⟩:S75)]);replace H:((some (j.drop (q:Int).toNat:List (S75))).bind fun u=>(if G.length+u.length < 3518437208883 then (some ((G++u),s,0)) else (none)))=some (r1,r2,r3):=zY aE H;have bp:=Aside0.mk aE;clear aE;have cC:=eq_true (zD:0≤q);have cD:=eq_true (zD:q≤(j.length:Int));obtain ⟨u,aG⟩:=zy (α:=List (S75)) (j.drop (q:Int).toNat);replace H:(if G.length+u.length < 3518437208883 then (some ((G++u),s,0)) else (none))=some (r1,r2,r3):=zY aG H;have aH:=Aside0.mk aG;clear aG;replace H:=zan H;obtain ⟨bq,H⟩:=H;obtain ⟨aU,aI⟩:=zy (α:=List (S75)) (G++u);replace H:(some (aU,s,0))=some (r1,r2,r3):=zY aI H;have br:=Aside0.mk aI;clear aI;simp only [Option.some.injEq,Prod.mk.injEq] at H;obtain ⟨rfl,rfl,rfl⟩:=H;obtain ⟨L,O,bK⟩:=Kd.R_slice a.out;subst bK;go_enter Tryz.func20,Tryz.ntmps20;go_wp2_with (first | ((with_reducible refine zgd 2 ?_);refine zBx 2 #[.slice L j.length O] 24 ?_;intro U hg dL hbox hb;replace a:=Aside0.mk (Kd.R_below (zR a) hb);have d:=Aside0.mk (hbox);have ap:=zGW HK hg;replace HK:=zkk HK hb;have aq:=zGE HB hg;replace HB:=zbs HB hb;clear hb hbox hg) | ((with_reducible refine zgd 3 ?_);refine zBx 3 #[.int .i64 t,.string r] 60 ?_;intro V hg dM hbox hb;replace a:=Aside0.mk (Kd.R_below (zR a) hb);have i:=Aside0.mk (hbox);have ar:=zGW HK hg;replace HK:=zkk HK hb;have au:=zGE HB hg;replace HB:=zbs HB hb;have D:=zNl d hg;have E:=zNg d hg;replace d:=zkb d hb;clear hb hbox hg) | ((with_reducible refine zgd 4 ?_);refine zBx 4 #[.slice none 0 0] 24 ?_;intro I hg dN hbox hb;replace a:=Aside0.mk (Kd.R_below (zR a) hb);have l:=Aside0.mk (hbox);have av:=zGW HK hg;replace HK:=zkk HK hb;have aw:=zGE HB hg;replace HB:=zbs HB hb;have y:=zNl d hg;have z:=zNg d hg;replace d:=zkb d hb;have A:=zNl i hg;have B:=zNg i hg;replace i:=zkb i hb;clear hb hbox hg;have cE:=E.out;have cF:=D.out;have cG:=A.out;have cH:=B.out;have c8:=zF2 i) | (go_at_call 30;(with_reducible refine (g16Whole.calls k t r ab _ A3.out).mono ?_);rintro e dO ⟨rfl,hb⟩;replace a:=Aside0.mk (Kd.R_below (zR a) hb);replace d:=zkb d hb;replace i:=zkb i hb;replace l:=zkb l hb;replace HK:=zkk HK hb;replace HB:=zbs HB hb;clear hb;have c9:=zF2 i) | (go_at_call 31;(with_reducible refine (g14Id.calls k t r s _ A5.out).mono ?_);rintro e dP ⟨rfl,hb⟩;replace a:=Aside0.mk (Kd.R_below (zR a) hb);replace d:=zkb d hb;replace i:=zkb i hb;replace l:=zkb l hb;replace HK:=zkk HK hb;replace HB:=zbs HB hb;clear hb;have cI:=y.out;have cJ:=z.out;have da:=zF1 d) | (go_at_call 36;(with_reducible refine (g17Place.calls k _ _ j s q false _ ?side1 ?side2 A6.out).mono ?_);(case side1=>repeat (first | exact (Kd.R_reads' a.out).2.2 | (with_reducible refine Kd.C_alloc ?_ _) | (with_reducible refine Kd.C_drewN ?_ _) | (with_reducible refine Kd.C_drew ?_)));(case side2=>exact (Kd.R_reads' a.out).2.1);rintro e w' ⟨rfl,⟨nd,rfl⟩⟩;(try first | exact ⟨rfl,_,World.drewN_drewN _ _ _⟩ | exact ⟨rfl,_,Eq.trans (World.drewN_drewN _ _ _) (congrArg (World.drewN _) (Nat.add_assoc _ _ _))⟩)) | ((with_reducible refine zgd 56 ?_);refine Kd.R_lit k75 _ 75 ?hg (N:=56) ?hd (xs:=([]:List (S75))) (inner:=[]) (ok:=fun _=>True) (okp:=fun _=>True) ?hr ?hp (fun _ hk=>hk) trivial (Below.refl _ _) (Nat.le_refl _) (by simp) ?_;(case hd=>rfl);(case hg=>rfl);(case hr=>first | (go_simp;done) | (go_simp;rfl));(case hp=>exact (Reps.none _ _));intro bL dQ ah hb hg_ hnew_;clear hg_ hnew_;(first | rw [← a2.out] at ah | (simp only [Int.reduceToNat] at ah;rw [← a2.out] at ah));have Y:=Aside0.mk (Kd.R_lower (Kd.R_new' (Kd.R_newM (M:=fun k_=>(x k_∨w.heap.size≤k_)) ah (zK1 HK) (fun k_ h_=>.inr h_)) (Kd.R_lt (zR a))) (below_size zB));replace a:=Aside0.mk (Kd.R_elder' (zR a) (Kd.R_base ah) hb);replace d:=zkb d hb;replace i:=zkb i hb;replace l:=zkb l hb;replace HK:=zkk HK hb;replace HB:=zbs HB hb;clear hb ah;have db:=zF1 d;have bc:(q:Int)≤((j.length:Int):Int):=zD;obtain ⟨dc,hi079,_,hsz79,_⟩:=info_parts info75;have hroom79:j.length≤O:=(Kd.R_reads' a.out).2.1;have hC79:Kd.C k75 _ L j.length j:=(Kd.R_reads' a.out).2.2;have hcut79:=cut_to (P:=Tryz.prog) 22 75 .i64 Tryz.underlying22 hi079 L j.length O q (zD) bc hroom79;have aV:=Kd.C_take (m:=(q:Int).toNat) hC79 (by omega);have aW:F.length=(q:Int).toNat:=(by rw [af.out,List.length_take];omega);rw [← af.out] at aV;rw [← aW] at hcut79;have ag:=Aside0.mk aV;have cK:=Aside0.mk (show F.length≤O from by omega);clear aV hC79 hroom79 hi079 hsz79;have KY79:=Aside0.mk aW;clear aW;have KL79:=Aside0.mk (show (q:Int).toNat≤j.length from by omega);replace bc:=eq_true bc) | ((with_reducible refine gate_builtin (b:=.append) (xs:=#[.tmp 56,.tmp 60]) rfl ?_);at_builtin;refine Kd.R_append_rows k75 (w0:=w0) w0.heap.size rfl (.tmp 56) (.tmp 60) 22 75 (.agg #[(.string ⟨#[]⟩),(.int .i64 0),(.string ⟨#[]⟩)]) 40 rfl Tryz.underlying22 info75 rfl (by decide) (by omega) bL Q F _ _ _ (fun k_=>(x k_∨w.heap.size≤k_)∧some k_≠(.slice L j.length O:Value).ownBlock) (fun _=>False) rfl rfl ?aO ?aR (fun _ _ h=>h) (fun _ h=>h.elim) ?aF ?aB ?aS ?aL ?_;(case aR=>repeat (first | exact (by repeat (first | (with_reducible exact ag.out) | (with_reducible refine Kd.C_alloc ?_ _) | (with_reducible refine Kd.C_drewN ?_ _) | (with_reducible refine Kd.C_drew ?_) | exact ag.out)) | (with_reducible refine Kd.C_alloc ?_ _) | (with_reducible refine Kd.C_drewN ?_ _) | (with_reducible refine Kd.C_drew ?_)));(case aB=>exact zB);(case aF=>exact (fun k_ hk=>⟨(.inr (Nat.le_trans (zK1 HK) hk)),Kd.fresh' (Kd.R_lt (zR a)) k_ hk⟩));(case aO=>exact (by (with_reducible repeat (first | apply Kd.R_alloc | apply Kd.R_drewN | apply Kd.R_drew));exact Kd.R_mono Y.out (fun _ hk=>⟨hk.1.1,hk.2⟩)));(case aS=>exact (below_size zB));(case aL=>have:=bm.out;omega);intro bM bX ho hb hg hat;rw [← bn.out] at ho;replace d:=Aside0.mk (blk_grown (g:=U) (o:=.cells #[.slice L j.length O] 24 (0,0)) (zb d) hg (Kd.R_ne Y.out d.out (by decide)));replace i:=Aside0.mk (blk_grown (g:=V) (o:=.cells #[.int .i64 t,.string r] 60 (0,0)) (zb i) hg (Kd.R_ne Y.out i.out (by decide)));replace l:=Aside0.mk (blk_grown (g:=I) (o:=.cells #[.slice none 0 0] 24 (0,0)) (zb l) hg (Kd.R_ne Y.out l.out (by decide)));replace HB:=Aside0.mk (hb);replace HK:=Aside0.mk (Kept.of_grown (S:=(fun k_=>x k_)) hg (zK HK) (fun k_ e_=>(Y.out.1 k_ e_).1.1));replace ag:=Aside0.mk ((show Kd.C k75 bX L F.length F from by rw [af.out];exact Kd.C_take (m:=(q:Int).toNat) ((Kd.R_reads' (Kd.R_after (ok:=(fun k_=>(x k_∨w.heap.size≤k_))) (zR a) hg hat)).2.2) KL79.out));replace a:=Aside0.mk (Kd.R_after (ok:=(fun k_=>(x k_∨w.heap.size≤k_))) (zR a) hg hat);have Z:=Aside0.mk (ho);clear Y ho hb hg hat;have dd:=zF2 i) | ((with_reducible refine gate_builtin (b:=.append) (xs:=#[.tmp 62,.tmp 69]) rfl ?_);at_builtin;refine Kd.R_append k75 (w0:=w0) w0.heap.size rfl (.tmp 62) (.tmp 69) 22 75 (.agg #[(.string ⟨#[]⟩),(.int .i64 0),(.string ⟨#[]⟩)]) 40 rfl Tryz.underlying22 info75 rfl (by decide) (by omega) bM J (⟨s,t,r⟩:S75) [.string s,.int .i64 t,.string r] (fun k_=>(x k_∨w.heap.size≤k_)∧some k_≠(.slice L j.length O:Value).ownBlock) (fun _=>False) rfl rfl ?aP (fun _ hk=>hk.elim) ?aF ?aO ?aB ?aS ?aL ?_;(case aP=>exact k75_mkM _ _ _ (⟨s,t,r⟩:S75));(case aB=>exact zB);(case aF=>exact (fun k_ hk=>⟨(.inr (Nat.le_trans (zK1 HK) hk)),Kd.fresh' (Kd.R_lt (zR a)) k_ hk⟩));(case aO=>exact (zR Z));(case aS=>exact (below_size zB));(case aL=>have:=bo.out;omega);intro bN bY ho hb hg hat;rw [← bp.out] at ho;replace d:=Aside0.mk (blk_grown (g:=U) (o:=.cells #[.slice L j.length O] 24 (0,0)) (zb d) hg (Kd.R_ne Z.out d.out (by decide)));replace i:=Aside0.mk (blk_grown (g:=V) (o:=.cells #[.int .i64 t,.string r] 60 (0,0)) (zb i) hg (Kd.R_ne Z.out i.out (by decide)));replace l:=Aside0.mk (blk_grown (g:=I) (o:=.cells #[.slice none 0 0] 24 (0,0)) (zb l) hg (Kd.R_ne Z.out l.out (by decide)));replace HB:=Aside0.mk (hb);replace HK:=Aside0.mk (Kept.of_grown (S:=(fun k_=>x k_)) hg (zK HK) (fun k_ e_=>(Z.out.1 k_ e_).1));replace ag:=Aside0.mk ((show Kd.C k75 bY L F.length F from by rw [af.out];exact Kd.C_take (m:=(q:Int).toNat) ((Kd.R_reads' (Kd.R_after (ok:=(fun k_=>(x k_∨w.heap.size≤k_))) (zR a) hg hat)).2.2) KL79.out));replace a:=Aside0.mk (Kd.R_after (ok:=(fun k_=>(x k_∨w.heap.size≤k_))) (zR a) hg hat);have aa:=Aside0.mk (ho);clear Z ho hb hg hat;have de:=zF1 d;have bd:(q:Int)≤((j.length:Int):Int):=zD;obtain ⟨df,hi084,_,hsz84,_⟩:=info_parts info75;have hroom84:j.length≤O:=(Kd.R_reads' a.out).2.1;have hC84:Kd.C k75 _ L j.length j:=(Kd.R_reads' a.out).2.2;have bO:(0:Int)≤(q:Int):=zD;have hcut84:=cut_from (P:=Tryz.prog) 22 75 .i64 Tryz.underlying22 hi084 3 hsz84 L j.length O q bO bd;have ak:=Kd.C_drop (m:=(q:Int).toNat) (c:=O) hC84 (by omega) hroom84;obtain ⟨bt,hA84⟩:∃ A1,A1=(if O=(q:Int).toNat then L else (L:Option Addr).map (·.add ((q:Int).toNat*3))):=⟨_,rfl⟩;obtain ⟨bZ,aX⟩:∃ c1,c1=O - (q:Int).toNat:=⟨_,rfl⟩;have aJ:u.length=j.length - (q:Int).toNat:=(by rw [aH.out,List.length_drop]<;>omega);rw [show (j).drop (q:Int).toNat=u from aH.out.symm] at ak;replace ak:Kd.C k75 _ bt u.length u:=(by rw [hA84];exact ak);rw [← aJ,← hA84,← aX] at hcut84;have aK:=Aside0.mk ak;have cL:=Aside0.mk (show u.length≤bZ from by rw [aJ,aX];exact Nat.sub_le_sub_right hroom84 _);clear ak hC84 hroom84 hi084 hsz84 aX;have KY84:=Aside0.mk aJ;have KA84:=Aside0.mk hA84;clear aJ hA84;have KL84:=Aside0.mk (show (q:Int).toNat≤j.length from by omega);replace bd:=eq_true bd) | ((with_reducible refine gate_builtin (b:=.append) (xs:=#[.tmp 71,.tmp 75]) rfl ?_);at_builtin;refine Kd.R_append_rows k75 (w0:=w0) w0.heap.size rfl (.tmp 71) (.tmp 75) 22 75 (.agg #[(.string ⟨#[]⟩),(.int .i64 0),(.string ⟨#[]⟩)]) 40 rfl Tryz.underlying22 info75 rfl (by decide) (by omega) bN G u _ _ _ (fun k_=>(x k_∨w.heap.size≤k_)∧some k_≠(.slice L j.length O:Value).ownBlock) (fun _=>False) rfl rfl ?aO ?aR (fun _ _ h=>h) (fun _ h=>h.elim) ?aF ?aB ?aS ?aL ?_;(case aR=>repeat (first | exact (by repeat (first | (with_reducible exact aK.out) | (with_reducible refine Kd.C_alloc ?_ _) | (with_reducible refine Kd.C_drewN ?_ _) | (with_reducible refine Kd.C_drew ?_) | exact aK.out)) | (with_reducible refine Kd.C_alloc ?_ _) | (with_reducible refine Kd.C_drewN ?_ _) | (with_reducible refine Kd.C_drew ?_)));(case aB=>exact zB);(case aF=>exact (fun k_ hk=>⟨(.inr (Nat.le_trans (zK1 HK) hk)),Kd.fresh' (Kd.R_lt (zR a)) k_ hk⟩));(case aO=>exact (zR aa));(case aS=>exact (below_size zB));(case aL=>have:=bq.out;omega);intro dh bu ho hb hg hat;rw [← br.out] at ho;replace d:=Aside0.mk (blk_grown (g:=U) (o:=.cells #[.slice L j.length O] 24 (0,0)) (zb d) hg (Kd.R_ne aa.out d.out (by decide)));replace i:=Aside0.mk (blk_grown (g:=V) (o:=.cells #[.int .i64 t,.string r] 60 (0,0)) (zb i) hg (Kd.R_ne aa.out i.out (by decide)));replace l:=Aside0.mk (blk_grown (g:=I) (o:=.cells #[.slice none 0 0] 24 (0,0)) (zb l) hg (Kd.R_ne aa.out l.out (by decide)));replace HB:=Aside0.mk (hb);replace HK:=Aside0.mk (Kept.of_grown (S:=(fun k_=>x k_)) hg (zK HK) (fun k_ e_=>(aa.out.1 k_ e_).1));replace ag:=Aside0.mk ((show Kd.C k75 bu L F.length F from by rw [af.out];exact Kd.C_take (m:=(q:Int).toNat) ((Kd.R_reads' (Kd.R_after (ok:=(fun k_=>(x k_∨w.heap.size≤k_))) (zR a) hg hat)).2.2) KL79.out));replace aK:=Aside0.mk ((show Kd.C k75 bu bt u.length u from by rw [aH.out,KA84.out];exact Kd.C_drop (m:=(q:Int).toNat) (c:=O) ((Kd.R_reads' (Kd.R_after (ok:=(fun k_=>(x k_∨w.heap.size≤k_))) (zR a) hg hat)).2.2) KL84.out ((Kd.R_reads' (Kd.R_after (ok:=(fun k_=>(x k_∨w.heap.size≤k_))) (zR a) hg hat)).2.1)));replace a:=Aside0.mk (Kd.R_after (ok:=(fun k_=>(x k_∨w.heap.size≤k_))) (zR a) hg hat);have a3:=Aside0.mk (ho);clear aa ho hb hg hat;obtain ⟨be,bf,bP⟩:=Kd.R_slice a3.out;subst bP;have di:=zF1 l));refine bodyPost_ret (results_ctt rfl _ _ I 24 #[.slice be aU.length bf] (0,0) _ rfl (zc l) Tryz.underlying24 rfl (by kernel_rfl)) rfl ?_;exact ⟨_,zW,by (with_reducible repeat (first | apply Kd.R_alloc | apply Kd.R_drewN | apply Kd.R_drew));exact Kd.R_mono (Kd.R_far (p:=⟨I,0,none⟩) (Kd.R_types a3.out l.out (by decide)) (fun _ hk=>hk.2) (.slice be aU.length bf)) (fun _ hk=>hk.1.1),zB,(zK HK)⟩
 ·simp only [Option.some.injEq,Prod.mk.injEq] at H;obtain ⟨rfl,rfl,rfl⟩:=H;obtain ⟨bQ,bR,bS⟩:=Kd.R_slice a.out;subst bS;go_enter Tryz.func20,Tryz.ntmps20;go_wp2_with (first | ((with_reducible refine zgd 2 ?_);refine zBx 2 #[.slice bQ j.length bR] 24 ?_;intro U hg dR hbox hb;replace a:=Aside0.mk (Kd.R_below (zR a) hb);have d:=Aside0.mk (hbox);have ap:=zGW HK hg;replace HK:=zkk HK hb;have aq:=zGE HB hg;replace HB:=zbs HB hb;clear hb hbox hg) | ((with_reducible refine zgd 3 ?_);refine zBx 3 #[.int .i64 t,.string r] 60 ?_;intro V hg dS hbox hb;replace a:=Aside0.mk (Kd.R_below (zR a) hb);have i:=Aside0.mk (hbox);have ar:=zGW HK hg;replace HK:=zkk HK hb;have au:=zGE HB hg;replace HB:=zbs HB hb;have D:=zNl d hg;have E:=zNg d hg;replace d:=zkb d hb;clear hb hbox hg) | ((with_reducible refine zgd 4 ?_);refine zBx 4 #[.slice none 0 0] 24 ?_;intro I hg dT hbox hb;replace a:=Aside0.mk (Kd.R_below (zR a) hb);have l:=Aside0.mk (hbox);have av:=zGW HK hg;replace HK:=zkk HK hb;have aw:=zGE HB hg;replace HB:=zbs HB hb;have y:=zNl d hg;have z:=zNg d hg;replace d:=zkb d hb;have A:=zNl i hg;have B:=zNg i hg;replace i:=zkb i hb;clear hb hbox hg;have cM:=E.out;have cN:=D.out;have cO:=A.out;have cP:=B.out;have dj:=zF2 i) | (go_at_call 30;(with_reducible refine (g16Whole.calls k t r ab _ A3.out).mono ?_);rintro e dU ⟨rfl,hb⟩;replace a:=Aside0.mk (Kd.R_below (zR a) hb);replace d:=zkb d hb;replace i:=zkb i hb;replace l:=zkb l hb;replace HK:=zkk HK hb;replace HB:=zbs HB hb;clear hb;have cQ:=z.out;have cR:=y.out;have dk:=zF1 l));refine bodyPost_ret (results_ctt rfl _ _ I 24 #[.slice none 0 0] (0,0) _ rfl (zc l) Tryz.underlying24 rfl (by kernel_rfl)) rfl ?_;exact ⟨_,zW,by first | exact Kd.R_nil _ _ _ _ _ | exact Kd.N_nil _ _ _ _ _ | exact Kd.V_nil _ _ _ _ _ | exact Kd.Q_nil _ _ _ _ _ | exact Kd.S_nil _ _ _ _ _,zB,(zK HK)⟩
def g02Raw.l0:Nat→ByteArray→List Int→Int→Option (ByteArray × Bool)
 | 0,_,_,_=>none
 | k+1,d,e,a=>if a < 40 then (if 0≤a then (if a < (d.size:Int) then ((g02Digit.f k (bt d a)).bind fun h=>(if 0≤(wrap64 (a+1)) then (if (wrap64 (a+1)) < (d.size:Int) then ((g02Digit.f k (bt d (wrap64 (a+1)))).bind fun i=>(if e.length < 140737488355328 then (g02Raw.l0 k d (e++[(wrap64 ((wrap64 (16*h))+i)) % 256]) (wrap64 (a+2))) else (none))) else (none)) else (none))) else (none)) else (none)) else (some (strOfNums e,true))
def g02Raw.f (k:Nat) (d:ByteArray):Option (ByteArray × Bool):=(g02Is.f k d).bind fun a=>(if a=true then (g02Raw.l0 k d (([]:List Int)) 0) else (some ((⟨#[]⟩:ByteArray),false)))
def g02Raw.T7:Bool × List (List Nat × List Nat):=(true,[([],[]),([],[]),([],[]),([1,2],[1,2]),([3],[3]),([4],[4]),([],[]),([],[]),([7],[7]),([6,8],[6,8]),([9,4],[9]),([5,10],[5,10]),([11],[11]),([12],[12]),([0,13,10],[0,13]),([14,14,0,1,2,3,4,5,6,7,8,9,10,11,12,13,14],[0,14])])
def g02Raw.B7:List Nat:=[0,0,0,6,14,30,0,0,128,448,990,2046,4094,8190,16383,32767]
theorem g02Raw.tab7:rtab .any (opsOf Tryz.f84 7)=g02Raw.T7:=by kernel_rfl
theorem g02Raw.bits7:waitsOk g02Raw.T7.2 g02Raw.B7=true:=by kernel_rfl
set_option maxHeartbeats 8000000 in
set_option maxRecDepth 100000 in
theorem g02Raw.calls (k:Nat) (d:ByteArray) (t:ByteArray) (u:Bool) (w:World) (h:g02Raw.f k d=some (t,u)) :
  Calls Tryz.prog 84 #[.string d] w fun e w'=>e=.returned (.tuple #[.string t,.bool u])∧Below w.heap.size w w':=by
 have HB:=Aside0.mk (Below.refl w.heap.size w);have H:((g02Is.f k d).bind fun A=>(if A=true then (g02Raw.l0 k d (([]:List Int)) 0) else (some ((⟨#[]⟩:ByteArray),false))))=some (t,u):=h;clear h;replace H:=zbd H;obtain ⟨A,W,H⟩:=H;by_cases C:A=true
 ·subst C;have H1:(g02Raw.l0 k d (([]:List Int)) 0)=some (t,u):=by rw [if_pos rfl] at H;exact H
  clear H;have H:=H1;clear H1;obtain ⟨D,x⟩:=zy (α:=List Int) (([]:List Int));replace H:(g02Raw.l0 k d D 0)=some (t,u):=zY x H;have B:=Aside0.mk x;clear x;have H':=Aside0.mk H;clear H;go_enter Tryz.func84,Tryz.ntmps84;go_wp2_with (first | ((with_reducible refine zgc 52 ?_);refine zGL 7 Tryz.func52 #[.string d] ?_;(with_reducible refine (g02Is.calls k d true _ W.out).mono ?_);rintro e w' ⟨rfl,⟨nd,rfl⟩⟩;refine ⟨_,rfl,?_⟩) | ((with_reducible refine zgd 9 ?_);refine Kd.R_lit (Kd.int .u8) _ 5 ?hg (N:=9) ?hd (xs:=([]:List Int)) (inner:=[]) (ok:=fun _=>True) (okp:=fun _=>True) ?hr ?hp (fun _ hk=>hk) trivial (Below.refl _ _) (Nat.le_refl _) (by simp) ?_;(case hd=>rfl);(case hg=>rfl);(case hr=>first | (go_simp;done) | (go_simp;rfl));(case hp=>exact (Reps.none _ _));intro ad w4 z hb hg_ hnew_;clear hg_ hnew_;(first | rw [← B.out] at z | (simp only [Int.reduceToNat] at z;rw [← B.out] at z));have F:=Aside0.mk (Kd.R_lower z (below_size zB));replace HB:=zbs HB hb;clear hb z));go_loopg [4,5] k (fun kq v4 v5 w'=>∃ (j:List Int) (a:Int),v5=.int .i64 a∧Aside0 (g02Raw.l0 kq d j a=some (t,u))∧Aside0 (kq≤k)∧Aside0 (Kd.R (Kd.int .u8) 5 w' w.heap.size (fun _=>True) v4 j)∧Aside0 (Below w.heap.size w w'))
  case atStart=>exact ⟨(D),(0),zE,H',⟨Nat.le_refl _⟩,⟨(zR F)⟩,⟨zB⟩⟩
  case round =>
   clear H';obtain ⟨j,a,rfl,HA,O,l,HB⟩:=hrel;cases gk with
   | zero=>exact absurd HA.out (by simp [g02Raw.l0])
   | succ k1 =>
    have H:=HA.out;clear HA;simp only [g02Raw.l0] at H;replace H:=zdd H;rcases H with ⟨V,H⟩ | ⟨V,H⟩
    ·by_cases G:0≤a
     ·rw [if_pos G] at H;have ag:=decide_eq_true G;clear G;replace H:=zdn H;obtain ⟨ah,H⟩:=H;replace H:=zbd H;obtain ⟨s,Q,H⟩:=H;obtain ⟨i,r⟩:=zj (α:=Int) (wrap64 (a+1));replace H:(if 0≤(i) then (if (i) < (d.size:Int) then ((g02Digit.f k1 (bt d (i))).bind fun q=>(if j.length < 140737488355328 then (g02Raw.l0 k1 d (j++[(wrap64 ((wrap64 (16*s))+q)) % 256]) (wrap64 (a+2))) else (none))) else (none)) else (none))=some (t,u):=zJ r H;(try rw [r] at Q);have X:(IntKind.i64.wrap (a+1))=i:=(i64_w _).trans r;replace H:=zdn H;obtain ⟨ab,H⟩:=H;replace H:=zdn H;obtain ⟨ac,H⟩:=H;replace H:=zbd H;obtain ⟨q,Y,H⟩:=H;replace H:=zan H;obtain ⟨I,H⟩:=H;obtain ⟨E,y⟩:=zy (α:=List Int) (j++[(wrap64 ((wrap64 (16*s))+q)) % 256]);replace H:(g02Raw.l0 k1 d E (wrap64 (a+2)))=some (t,u):=zY y H;have J:=Aside0.mk y;clear y;have H':=Aside0.mk H;clear H;(try go_wp2);replace l:=Aside0.mk (Kd.R_drew l.out);replace HB:=Aside0.mk (below_drew1 HB.out);have Z:0≤(a:Int):=zD;have q9:a < (d.size:Int):=zD;have ak:=bt_at d a;replace Z:=eq_true Z;replace q9:=eq_true q9;have T:0≤((i):Int):=zD;have U:(i) < (d.size:Int):=zD;have ai:=bt_at d (i);replace T:=eq_true T;replace U:=eq_true U;refine start_ (n:=16) (S:=fun w'=>True) (ds:=[]) (bm 16 0) (by kernel_rfl) rfl rfl trivial (fun hHeld=>?_);refine with_tabW g02Raw.tab7 g02Raw.bits7 (fun HT_ HW_=>?_);generalize wr.drew=al at l HB hHeld ⊢;refine zPu 0 14 1 ?_;refine zPu 1 15 3 ?_;refine zPu 2 16 7 ?_;refine zPu 6 20 71 ?_;refine zPu 7 21 199 ?_;refine zPu 8 22 455 ?_;refine zTk 3 17 463 ?_;refine zTk 9 23 975 ?_;refine zOn 4 18 991 fun K hK=>?_;refine zGo Tryz.func105 #[.int .u8 (bt d a)] ?_;(with_reducible refine (g02Digit.calls k1 (bt d a) s _ Q.out).mono ?_);rintro e w' ⟨rfl,⟨nd,rfl⟩⟩;refine ⟨_,rfl,?_⟩;refine hK.out _ _ trivial (fun hHeld=>?_);clear hK K;refine norm_ (a':=?_) ?_ ?_;rotate_left
      ·show Act.put _ (some 18) _=_;simp only [Act.put,List.setIfInBounds_toArray,List.set_cons_zero,List.set_cons_succ,i64_w,i32_w];rfl
      refine zPu 5 19 1023 ?_;refine zOn 10 24 2047 fun K hK=>?_;refine goes_ Tryz.func105 (by kernel_rfl) rfl #[.int .u8 (bt d (i))] (by rfl) rfl rfl (by (try simp only [List.map_toArray,List.map_cons,List.map_nil]);first | done | (simp only [r];rfl) | rfl | (simp only [List.length_drop,List.length_take];rfl)) ?_;(with_reducible refine (g02Digit.calls k1 (bt d (i)) q _ Y.out).mono ?_);rintro e w' ⟨rfl,⟨nd,rfl⟩⟩;refine ⟨_,rfl,?_⟩;refine hK.out _ _ trivial (fun hHeld=>?_);clear hK K;refine norm_ (a':=?_) ?_ ?_;rotate_left
      ·show Act.put _ (some 24) _=_;simp only [Act.put,List.setIfInBounds_toArray,List.set_cons_zero,List.set_cons_succ,i64_w,i32_w];rfl
      refine zPu 11 25 4095 ?_;refine zPu 12 26 8191 ?_;refine zOn 13 27 16383 fun K hK=>?_;refine value_ (w1:=?_) (v:=?_) (by rfl) rfl ?_ ?_;rotate_left 2
      ·go_simp;constructor
       ·rfl
       ·rfl
      refine hK.out _ _ trivial (fun hHeld=>?_);clear hK K;refine norm_ (a':=?_) ?_ ?_;rotate_left
      ·show Act.put _ (some 27) _=_;simp only [Act.put,List.setIfInBounds_toArray,List.set_cons_zero,List.set_cons_succ,i64_w,i32_w];rfl
      refine zOn 14 28 32767 fun K hK=>?_;refine Kd.R_append_step (Kd.int .u8) (w0:=w) w.heap.size (by rfl) (.tmp 14) (.tmp 27) 126 5 (.int .u8 0) 1 rfl Tryz.underlying126 info5 rfl (by decide) (by omega) u4 j ((wrap64 ((wrap64 (16*s))+q)) % 256) [.int .u8 ((wrap64 ((wrap64 (16*s))+q)) % 256)] (fun _=>True) (fun _=>False) rfl rfl ?aP (fun _ hk=>hk.elim) ?aF ?aO ?aB ?aS ?aL ?_;(case aP=>exact rfl);(case aB=>exact zB);(case aF=>exact (fun _ _=>trivial));(case aO=>exact (zR l));(case aS=>exact (below_size zB));(case aL=>have:=I.out;omega);intro aj am ho hb hg hat;rw [← J.out] at ho;replace HB:=Aside0.mk (hb);have L:=Aside0.mk (ho);clear l ho hb hg hat;refine hK.out _ _ trivial (fun hHeld=>?_);clear hK K;refine norm_ (a':=?_) ?_ ?_;rotate_left
      ·show Act.put _ (some 28) _=_;simp only [Act.put,List.setIfInBounds_toArray,List.set_cons_zero,List.set_cons_succ,i64_w,i32_w];rfl
      refine zPu 15 4 65535 ?_;refine done_ (done_of HT_.out (by kernel_rfl)) ?_;(try go_wp2);go_roundg k1
      case measure=>have:=O.out;omega
      case rel=>exact ⟨(E),(wrap64 (a+2)),zE,H',⟨by have:=O.out;omega⟩,⟨(zR L)⟩,⟨zB⟩⟩
     ·rw [if_neg G] at H;exact absurd H (by simp)
    ·simp only [Option.some.injEq,Prod.mk.injEq] at H;obtain ⟨rfl,rfl⟩:=H;have hcv19:=own_string (P:=Tryz.prog) Tryz.underlying126 Tryz.underlying5 Tryz.underlying9 (Kd.own_of_R l.out);go_wp2;go_ret2;exact ⟨zW,zB⟩
 ·replace C:=Bool.eq_false_iff.mpr C;subst C;have H1:(some ((⟨#[]⟩:ByteArray),false))=some (t,u):=by rw [if_neg (show ¬ (false=true) by decide)] at H;exact H
  clear H;have H:=H1;clear H1;simp only [Option.some.injEq,Prod.mk.injEq] at H;obtain ⟨rfl,rfl⟩:=H;go_enter Tryz.func84,Tryz.ntmps84;go_wp2_with (first | ((with_reducible refine zgc 52 ?_);refine zGL 7 Tryz.func52 #[.string d] ?_;(with_reducible refine (g02Is.calls k d false _ W.out).mono ?_);rintro e w' ⟨rfl,⟨nd,rfl⟩⟩;refine ⟨_,rfl,?_⟩));go_ret2;exact ⟨zW,zB⟩
end Go.Proofs.YtninnmdpnoebaaaGreatDoor.PRa
end
section
namespace Go.Proofs.YtninnmdpnoebaaaGreatDoor.PRa
open Go.Proofs.YtninnmdpnoebaaaGreatDoor.Sq Go.Proofs.YtninnmdpnoebaaaGreatDoor.Hand Go.RowKit Go.Proofs.YtninnmdpnoebaaaGreatDoorW.PrintWords Go.Proofs.YtninnmdpnoebaaaGreatDoorW.PrintLast Go.Proofs.YtninnmdpnoebaaaGreatDoorW.PrintMore
attribute [local go_sem] max2_int min2_int max_two min_two max_three min_three max_four min_four
set_option linter.unusedVariables false
set_option linter.unusedSimpArgs false
def g15Body.l0:Nat→List (S110)→List Int→Int→Int→Option (ByteArray × Int)
 | 0,_,_,_,_=>none
 | k+1,d,m,l,a=>if a < l then (if 0≤a then (if a < (d.length:Int) then ((g02Raw.f k ((rd_T110 d a).f2)).bind fun c=>((g15digits.f ((rd_T110 d a).f0)).bind fun e=>(if m.length+e.size < 140737488355328 then ((some (m++bytesOf e:List Int)).bind fun g=>(if g.length+((rd_T110 d a).f1).size < 140737488355328 then ((some (g++bytesOf ((rd_T110 d a).f1):List Int)).bind fun h=>(if h.length < 140737488355328 then ((some (h++[0]:List Int)).bind fun j=>(if j.length+c.1.size < 140737488355328 then (g15Body.l0 k d (j++bytesOf c.1) l (wrap64 (a+1))) else (none))) else (none))) else (none))) else (none)))) else (none)) else (none)) else (some (strOfNums m,0))
def g15Body.f (k:Nat) (c:List (S110)):Option (ByteArray × Int):=(g15Check.f k c).bind fun a=>(if a=0 then (g15Body.l0 k c ([]:List Int) (c.length:Int) 0) else (some ((⟨#[]⟩:ByteArray),a)))
set_option maxHeartbeats 8000000 in
set_option maxRecDepth 100000 in
theorem g15Body.calls (k:Nat) (A0:Option Addr) (c0:Nat) (c:List (S110)) (I:ByteArray) (J:Int) (w:World) (aw:Kd.C k110 w A0 c.length c) (ax:c.length≤c0) (h:g15Body.f k c=some (I,J)) :
  Calls Tryz.prog 58 #[.slice A0 c.length c0] w fun e w'=>e=.returned (.tuple #[.string I,.int .i64 J])∧Below w.heap.size w w':=by
 have L:=Aside0.mk aw;have ay:=Aside0.mk ax;clear aw ax;have HB:=Aside0.mk (Below.refl w.heap.size w);have H:((g15Check.f k c).bind fun m=>(if m=0 then (g15Body.l0 k c ([]:List Int) (c.length:Int) 0) else (some ((⟨#[]⟩:ByteArray),m))))=some (I,J):=h;clear h;replace H:=zbd H;obtain ⟨m,A2,H⟩:=H;replace H:=zbb H;rcases H with ⟨ac,ad,H⟩ | ⟨c3,ac,ad,H⟩
 ·have H':=Aside0.mk H;clear H;go_enter Tryz.func58,Tryz.ntmps58;go_wp2_with (first | ((with_reducible refine zgc 72 ?_);refine zGL 10 Tryz.func72 #[.slice A0 c.length c0] ?_;(with_reducible refine (g15Check.calls k _ _ c m _ ?side1 ?side2 A2.out).mono ?_);(case side1=>repeat (first | exact L.out | (with_reducible refine Kd.C_alloc ?_ _) | (with_reducible refine Kd.C_drewN ?_ _) | (with_reducible refine Kd.C_drew ?_)));(case side2=>exact ay.out);rintro e w4 ⟨rfl,hb⟩;refine ⟨_,rfl,?_⟩;replace HB:=zbs HB hb;clear hb));go_loopg [5,16] k (fun kq v5 aM w'=>∃ (o:List Int) (a:Int),aM=.int .i64 a∧Aside0 (g15Body.l0 kq c o (c.length:Int) a=some (I,J))∧Aside0 (kq≤k)∧Aside0 (Kd.R (Kd.int .u8) 5 w' w.heap.size (fun _=>True) v5 o)∧Aside0 (Below w.heap.size w w'))
  case atStart=>exact ⟨(([]:List Int)),(0),zE,H',⟨Nat.le_refl _⟩,⟨by first | exact Kd.R_nil _ _ _ _ _ | exact Kd.N_nil _ _ _ _ _ | exact Kd.V_nil _ _ _ _ _ | exact Kd.Q_nil _ _ _ _ _ | exact Kd.S_nil _ _ _ _ _⟩,⟨zB⟩⟩
  case round =>
   clear H' ac ad;obtain ⟨o,a,rfl,HA,aA,p,HB⟩:=hrel;cases gk with
   | zero=>exact absurd HA.out (by simp [g15Body.l0])
   | succ k1 =>
    have H:=HA.out;clear HA;simp only [g15Body.l0] at H;replace H:=zdd H;rcases H with ⟨aC,H⟩ | ⟨aC,H⟩
    ·by_cases c6:0≤a
     ·rw [if_pos c6] at H;have aV:=decide_eq_true c6;clear c6;replace H:=zdn H;obtain ⟨aW,H⟩:=H;replace H:=zbd H;obtain ⟨⟨g,aD⟩,A8,H⟩:=H;dsimp only at H;replace H:=zbd H;obtain ⟨M,A9,H⟩:=H;replace H:=zan H;obtain ⟨aj,H⟩:=H;obtain ⟨q,D⟩:=zy (α:=List Int) (o++bytesOf M);replace H:(if q.length+((rd_T110 c a).f1).size < 140737488355328 then ((some (q++bytesOf ((rd_T110 c a).f1):List Int)).bind fun j=>(if j.length < 140737488355328 then ((some (j++[0]:List Int)).bind fun d=>(if d.length+g.size < 140737488355328 then (g15Body.l0 k1 c (d++bytesOf g) (c.length:Int) (wrap64 (a+1))) else (none))) else (none))) else (none))=some (I,J):=zY D H;have ak:=Aside0.mk D;clear D;replace H:=zan H;obtain ⟨al,H⟩:=H;obtain ⟨j,E⟩:=zy (α:=List Int) (q++bytesOf ((rd_T110 c a).f1));replace H:(if j.length < 140737488355328 then ((some (j++[0]:List Int)).bind fun d=>(if d.length+g.size < 140737488355328 then (g15Body.l0 k1 c (d++bytesOf g) (c.length:Int) (wrap64 (a+1))) else (none))) else (none))=some (I,J):=zY E H;have am:=Aside0.mk E;clear E;replace H:=zan H;obtain ⟨an,H⟩:=H;obtain ⟨d,F⟩:=zy (α:=List Int) (j++[0]);replace H:(if d.length+g.size < 140737488355328 then (g15Body.l0 k1 c (d++bytesOf g) (c.length:Int) (wrap64 (a+1))) else (none))=some (I,J):=zY F H;have ao:=Aside0.mk F;clear F;replace H:=zan H;obtain ⟨ap,H⟩:=H;obtain ⟨O,G⟩:=zy (α:=List Int) (d++bytesOf g);replace H:(g15Body.l0 k1 c O (c.length:Int) (wrap64 (a+1)))=some (I,J):=zY G H;have aq:=Aside0.mk G;clear G;have H':=Aside0.mk H;clear H;have Q:0≤(a:Int):=zD;have T:a < (c.length:Int):=zD;obtain ⟨Y,aE,r,s,t⟩:=at_T110 L.out a Q T;cases aE;replace r:=zC r;replace s:=zC s;replace t:=zC t;replace Q:=eq_true Q;replace T:=eq_true T;go_wp2_with (first | ((with_reducible refine zgc 84 ?_);refine zGL 25 Tryz.func84 #[.string ((rd_T110 c a).f2)] ?_;(with_reducible refine (g02Raw.calls k1 ((rd_T110 c a).f2) g aD _ A8.out).mono ?_);rintro e aZ ⟨rfl,hb⟩;refine ⟨_,rfl,?_⟩;replace p:=Aside0.mk (Kd.R_below (zR p) hb);replace HB:=zbs HB hb;clear hb;have U:0≤(a:Int):=zD;have V:a < (c.length:Int):=zD;obtain ⟨ar,aG,u,x,y⟩:=at_T110 L.out a U V;obtain rfl:Y=ar:=(by injection aG);replace u:=zC u;replace x:=zC x;replace y:=zC y;replace U:=eq_true U;replace V:=eq_true V) | ((with_reducible refine zgc 85 ?_);refine zGL 34 Tryz.func85 #[.int .i64 ((rd_T110 c a).f0)] ?_;(with_reducible refine (g15digits.calls ((rd_T110 c a).f0) M _ A9.out).mono ?_);rintro e w' ⟨rfl,⟨nd,rfl⟩⟩;refine ⟨_,rfl,?_⟩) | (at_builtin;refine print_append_str (w0:=w) w.heap.size rfl (.tmp 28) _ 126 9 5 rfl Tryz.underlying126 Tryz.underlying9 info5 u5 o M rfl rfl ?aO ?aB ?aS ?aL ?_;(case aB=>exact zB);(case aO=>exact (Kd.own_of_R (zR p)));(case aS=>exact (below_size zB));(case aL=>have:=aj.out;omega);intro ae aN l hb hg;have ho:=Kd.R_of_own (h1:=fun _=>rfl) (ok:=fun _=>True) l (fun _ _=>trivial);clear l;have hat:=True.intro;rw [← ak.out] at ho;change Kd.R (Kd.int .u8) 5 aN w.heap.size (fun _=>True) ae q at ho;replace HB:=Aside0.mk (hb);have Z:=Aside0.mk (ho);clear p ho hb hg hat;have W:0≤(a:Int):=zD;have X:a < (c.length:Int):=zD;obtain ⟨au,aH,z,A,B⟩:=at_T110 L.out a W X;obtain rfl:Y=au:=(by injection aH);replace z:=zC z;replace A:=zC A;replace B:=zC B;replace W:=eq_true W;replace X:=eq_true X) | (at_builtin;refine print_append_str (w0:=w) w.heap.size rfl (.tmp 36) _ 126 9 5 rfl Tryz.underlying126 Tryz.underlying9 info5 ae q ((rd_T110 c a).f1) rfl rfl ?aO ?aB ?aS ?aL ?_;(case aB=>exact zB);(case aO=>exact (Kd.own_of_R (zR Z)));(case aS=>exact (below_size zB));(case aL=>have:=al.out;omega);intro af aQ l hb hg;have ho:=Kd.R_of_own (h1:=fun _=>rfl) (ok:=fun _=>True) l (fun _ _=>trivial);clear l;have hat:=True.intro;rw [← am.out] at ho;change Kd.R (Kd.int .u8) 5 aQ w.heap.size (fun _=>True) af j at ho;replace HB:=Aside0.mk (hb);have aa:=Aside0.mk (ho);clear Z ho hb hg hat) | ((with_reducible refine gate_builtin (b:=.append) (xs:=#[.tmp 43,.tmp 44]) rfl ?_);at_builtin;refine Kd.R_append (Kd.int .u8) (w0:=w) w.heap.size rfl (.tmp 43) (.tmp 44) 126 5 (.int .u8 0) 1 rfl Tryz.underlying126 info5 rfl (by decide) (by omega) af j 0 [.int .u8 0] (fun _=>True) (fun _=>False) rfl rfl ?aP (fun _ hk=>hk.elim) ?aF ?aO ?aB ?aS ?aL ?_;(case aP=>exact rfl);(case aB=>exact zB);(case aF=>exact (fun _ _=>trivial));(case aO=>exact (zR aa));(case aS=>exact (below_size zB));(case aL=>have:=an.out;omega);intro aI a0 ho hb hg hat;rw [← ao.out] at ho;replace HB:=Aside0.mk (hb);have ab:=Aside0.mk (ho);clear aa ho hb hg hat) | (at_builtin;refine print_append_str (w0:=w) w.heap.size rfl (.tmp 46) _ 126 9 5 rfl Tryz.underlying126 Tryz.underlying9 info5 aI d g rfl rfl ?aO ?aB ?aS ?aL ?_;(case aB=>exact zB);(case aO=>exact (Kd.own_of_R (zR ab)));(case aS=>exact (below_size zB));(case aL=>have:=ap.out;omega);intro aJ aR l hb hg;have ho:=Kd.R_of_own (h1:=fun _=>rfl) (ok:=fun _=>True) l (fun _ _=>trivial);clear l;have hat:=True.intro;rw [← aq.out] at ho;change Kd.R (Kd.int .u8) 5 aR w.heap.size (fun _=>True) aJ O at ho;replace HB:=Aside0.mk (hb);have av:=Aside0.mk (ho);clear ab ho hb hg hat));go_roundg k1
      case measure=>have:=aA.out;omega
      case rel=>exact ⟨(O),(wrap64 (a+1)),zE,H',⟨by have:=aA.out;omega⟩,⟨(zR av)⟩,⟨zB⟩⟩
     ·rw [if_neg c6] at H;exact absurd H (by simp)
    ·simp only [Option.some.injEq,Prod.mk.injEq] at H;obtain ⟨rfl,rfl⟩:=H;have hcv19:=own_string (P:=Tryz.prog) Tryz.underlying126 Tryz.underlying5 Tryz.underlying9 (Kd.own_of_R p.out);go_wp2;go_ret2;exact ⟨zW,zB⟩
 ·simp only [Option.some.injEq,Prod.mk.injEq] at H;obtain ⟨rfl,rfl⟩:=H;go_enter Tryz.func58,Tryz.ntmps58;go_wp2_with (first | ((with_reducible refine zgc 72 ?_);refine zGL 10 Tryz.func72 #[.slice A0 c.length c0] ?_;(with_reducible refine (g15Check.calls k _ _ c m _ ?side1 ?side2 A2.out).mono ?_);(case side1=>repeat (first | exact L.out | (with_reducible refine Kd.C_alloc ?_ _) | (with_reducible refine Kd.C_drewN ?_ _) | (with_reducible refine Kd.C_drew ?_)));(case side2=>exact ay.out);rintro e a1 ⟨rfl,hb⟩;refine ⟨_,rfl,?_⟩;replace HB:=zbs HB hb;clear hb));go_ret2;exact ⟨zW,zB⟩
def g16Num.l0:Nat→Int→ByteArray→Option (ByteArray)
 | 0,_,_=>none
 | k+1,d,e=>if d≥10 then ((some (([(wrap64 (48+(Int.tmod d 10))) % 256]:List Int):List Int)).bind fun a=>(if (strOfNums a).size+e.size≤9223372036854775807 then (g16Num.l0 k (wrap64 (Int.tdiv d 10)) ((strOfNums a)++e)) else (none))) else ((some (([(wrap64 (48+d)) % 256]:List Int):List Int)).bind fun c=>(if (strOfNums c).size+e.size≤9223372036854775807 then (some ((strOfNums c)++e)) else (none)))
def g16Num.f (k:Nat) (a:Int):Option (ByteArray):=g16Num.l0 k a (⟨#[]⟩:ByteArray)
set_option maxHeartbeats 8000000 in
set_option maxRecDepth 100000 in
theorem g16Num.calls (k:Nat) (s:Int) (r:ByteArray) (w:World) (h:g16Num.f k s=some r) :
  Calls Tryz.prog 61 #[.int .i64 s] w fun e w'=>e=.returned (.string r)∧Below w.heap.size w w':=by
 have HB:=Aside0.mk (Below.refl w.heap.size w);have H:(g16Num.l0 k s (⟨#[]⟩:ByteArray))=some r:=h;clear h;have H':=Aside0.mk H;clear H;go_enter Tryz.func61,Tryz.ntmps61;go_wp2;go_loopg [0,3] k (fun kq z A w'=>∃ (a:Int) (c:ByteArray),z=.int .i64 a∧A=.string c∧Aside0 (g16Num.l0 kq a c=some r)∧Aside0 (kq≤k)∧Aside0 (Below w.heap.size w w'))
 case atStart=>exact ⟨(s),((⟨#[]⟩:ByteArray)),zE,zE,H',⟨Nat.le_refl _⟩,⟨zB⟩⟩
 case round =>
  clear H';obtain ⟨a,c,rfl,rfl,HA,x,HB⟩:=hrel;cases gk with
  | zero=>exact absurd HA.out (by simp [g16Num.l0])
  | succ k1 =>
   have H:=HA.out;clear HA;simp only [g16Num.l0] at H;replace H:=zdd H;rcases H with ⟨y,H⟩ | ⟨y,H⟩
   ·obtain ⟨d,g⟩:=zy (α:=List Int) (([(wrap64 (48+(Int.tmod a 10))) % 256]:List Int));replace H:(if (strOfNums d).size+c.size≤9223372036854775807 then (g16Num.l0 k1 (wrap64 (Int.tdiv a 10)) ((strOfNums d)++c)) else (none))=some r:=zY g H;have p:=Aside0.mk g;clear g;replace H:=zcn H;obtain ⟨B,C,D,H⟩:=H;(try have E:(9223372036854775807 < (strOfNums d).size+c.size)=False:=eq_false (Nat.not_lt.2 B));have H':=Aside0.mk H;clear H;go_wp2_with (first | ((with_reducible refine zgd 10 ?_);refine Kd.R_lit (Kd.int .u8) _ 5 ?hg (N:=10) ?hd (xs:=([(wrap64 (48+(Int.tmod a 10))) % 256]:List Int)) (inner:=[.int .u8 ((wrap64 (48+(Int.tmod a 10))) % 256)]) (ok:=fun _=>True) (okp:=fun _=>True) ?hr ?hp (fun _ hk=>hk) trivial (Below.refl _ _) (Nat.le_refl _) (by simp) ?_;(case hd=>rfl);(case hg=>rfl);(case hr=>first | (go_simp;done) | (go_simp;rfl));(case hp=>exact (Reps.one (show Kd.M (Kd.int .u8) _ _ _ ((wrap64 (48+(Int.tmod a 10))) % 256) [.int .u8 ((wrap64 (48+(Int.tmod a 10))) % 256)] from rfl) (Reps.none _ _)));intro F Q l hb hg_ hnew_;clear hg_ hnew_;(first | rw [← p.out] at l | (simp only [Int.reduceToNat] at l;rw [← p.out] at l));have t:=Aside0.mk (Kd.R_lower l (below_size zB));replace HB:=zbs HB hb;clear hb l;have hcv6:=own_string (P:=Tryz.prog) Tryz.underlying126 Tryz.underlying5 Tryz.underlying9 (Kd.own_of_R t.out)));go_roundg k1
    case measure=>have:=x.out;omega
    case rel=>exact ⟨(wrap64 (Int.tdiv a 10)),((strOfNums d)++c),zE,zE,H',⟨by have:=x.out;omega⟩,⟨zB⟩⟩
   ·obtain ⟨o,j⟩:=zy (α:=List Int) (([(wrap64 (48+a)) % 256]:List Int));replace H:(if (strOfNums o).size+c.size≤9223372036854775807 then (some ((strOfNums o)++c)) else (none))=some r:=zY j H;have q:=Aside0.mk j;clear j;replace H:=zcn H;obtain ⟨G,I,J,H⟩:=H;(try have L:(9223372036854775807 < (strOfNums o).size+c.size)=False:=eq_false (Nat.not_lt.2 G));obtain rfl:=Option.some.inj H;go_wp2_with (first | ((with_reducible refine zgd 19 ?_);refine Kd.R_lit (Kd.int .u8) _ 5 ?hg (N:=19) ?hd (xs:=([(wrap64 (48+a)) % 256]:List Int)) (inner:=[.int .u8 ((wrap64 (48+a)) % 256)]) (ok:=fun _=>True) (okp:=fun _=>True) ?hr ?hp (fun _ hk=>hk) trivial (Below.refl _ _) (Nat.le_refl _) (by simp) ?_;(case hd=>rfl);(case hg=>rfl);(case hr=>first | (go_simp;done) | (go_simp;rfl));(case hp=>exact (Reps.one (show Kd.M (Kd.int .u8) _ _ _ ((wrap64 (48+a)) % 256) [.int .u8 ((wrap64 (48+a)) % 256)] from rfl) (Reps.none _ _)));intro O R m hb hg_ hnew_;clear hg_ hnew_;(first | rw [← q.out] at m | (simp only [Int.reduceToNat] at m;rw [← q.out] at m));have u:=Aside0.mk (Kd.R_lower m (below_size zB));replace HB:=zbs HB hb;clear hb m;have hcv10:=own_string (P:=Tryz.prog) Tryz.underlying126 Tryz.underlying5 Tryz.underlying9 (Kd.own_of_R u.out)));go_ret;exact ⟨zW,zB⟩
def g16Who.f (k:Nat) (a:ByteArray) (c:ByteArray) (h:Int) (d:Int):Option (ByteArray):=if d < 0 then ((some (([(wrap64 (48+(wrap64 (Int.tdiv (wrap64 (-d)) 600)))) % 256,(wrap64 (48+(Int.tmod (wrap64 (Int.tdiv (wrap64 (-d)) 60)) 10))) % 256,(wrap64 (48+(wrap64 (Int.tdiv (Int.tmod (wrap64 (-d)) 60) 10)))) % 256,(wrap64 (48+(Int.tmod (wrap64 (-d)) 10))) % 256]:List Int):List Int)).bind fun j=>(if a.size+2≤9223372036854775807 then (if (a++(⟨#[32,60]⟩:ByteArray)).size+c.size≤9223372036854775807 then (if ((a++(⟨#[32,60]⟩:ByteArray))++c).size+2≤9223372036854775807 then ((g16Num.f k h).bind fun e=>(if (((a++(⟨#[32,60]⟩:ByteArray))++c)++(⟨#[62,32]⟩:ByteArray)).size+e.size≤9223372036854775807 then (if ((((a++(⟨#[32,60]⟩:ByteArray))++c)++(⟨#[62,32]⟩:ByteArray))++e).size+1≤9223372036854775807 then (if (((((a++(⟨#[32,60]⟩:ByteArray))++c)++(⟨#[62,32]⟩:ByteArray))++e)++(⟨#[32]⟩:ByteArray)).size+1≤9223372036854775807 then (if ((((((a++(⟨#[32,60]⟩:ByteArray))++c)++(⟨#[62,32]⟩:ByteArray))++e)++(⟨#[32]⟩:ByteArray))++(⟨#[45]⟩:ByteArray)).size+(strOfNums j).size≤9223372036854775807 then (some (((((((a++(⟨#[32,60]⟩:ByteArray))++c)++(⟨#[62,32]⟩:ByteArray))++e)++(⟨#[32]⟩:ByteArray))++(⟨#[45]⟩:ByteArray))++(strOfNums j))) else (none)) else (none)) else (none)) else (none))) else (none)) else (none)) else (none))) else ((some (([(wrap64 (48+(wrap64 (Int.tdiv d 600)))) % 256,(wrap64 (48+(Int.tmod (wrap64 (Int.tdiv d 60)) 10))) % 256,(wrap64 (48+(wrap64 (Int.tdiv (Int.tmod d 60) 10)))) % 256,(wrap64 (48+(Int.tmod d 10))) % 256]:List Int):List Int)).bind fun l=>(if a.size+2≤9223372036854775807 then (if (a++(⟨#[32,60]⟩:ByteArray)).size+c.size≤9223372036854775807 then (if ((a++(⟨#[32,60]⟩:ByteArray))++c).size+2≤9223372036854775807 then ((g16Num.f k h).bind fun g=>(if (((a++(⟨#[32,60]⟩:ByteArray))++c)++(⟨#[62,32]⟩:ByteArray)).size+g.size≤9223372036854775807 then (if ((((a++(⟨#[32,60]⟩:ByteArray))++c)++(⟨#[62,32]⟩:ByteArray))++g).size+1≤9223372036854775807 then (if (((((a++(⟨#[32,60]⟩:ByteArray))++c)++(⟨#[62,32]⟩:ByteArray))++g)++(⟨#[32]⟩:ByteArray)).size+1≤9223372036854775807 then (if ((((((a++(⟨#[32,60]⟩:ByteArray))++c)++(⟨#[62,32]⟩:ByteArray))++g)++(⟨#[32]⟩:ByteArray))++(⟨#[43]⟩:ByteArray)).size+(strOfNums l).size≤9223372036854775807 then (some (((((((a++(⟨#[32,60]⟩:ByteArray))++c)++(⟨#[62,32]⟩:ByteArray))++g)++(⟨#[32]⟩:ByteArray))++(⟨#[43]⟩:ByteArray))++(strOfNums l))) else (none)) else (none)) else (none)) else (none))) else (none)) else (none)) else (none)))
def g16Who.T5:Bool × List (List Nat × List Nat):=(true,[([],[]),([0],[0]),([1],[1]),([],[]),([3],[3]),([2,4],[2,4]),([5],[5]),([],[]),([7],[7]),([8],[8]),([6,9],[6,9]),([10],[10]),([],[]),([11,12],[11,12]),([],[]),([13,14],[13,14]),([15,9,0,1,2,3,4,5,6,7,8,9,10,11,12,13,14,15],[15])])
def g16Who.B5:List Nat:=[0,1,3,0,8,31,63,0,128,384,1023,2047,0,8191,0,32767,65535]
theorem g16Who.tab5:rtab .any (opsOf Tryz.f35 5)=g16Who.T5:=by kernel_rfl
theorem g16Who.bits5:waitsOk g16Who.T5.2 g16Who.B5=true:=by kernel_rfl
set_option maxHeartbeats 8000000 in
set_option maxRecDepth 100000 in
theorem g16Who.calls (k:Nat) (d:ByteArray) (g:ByteArray) (o:Int) (a:Int) (r:ByteArray) (w:World) (h:g16Who.f k d g o a=some r) :
  Calls Tryz.prog 35 #[.agg #[.string d,.string g,.int .i64 o,.int .i64 a]] w fun e w'=>e=.returned (.string r)∧Below w.heap.size w w':=by
 have a2:=Tryz.underlying51;have HB:=Aside0.mk (Below.refl w.heap.size w);have H:(if a < 0 then ((some (([(wrap64 (48+(wrap64 (Int.tdiv (wrap64 (-a)) 600)))) % 256,(wrap64 (48+(Int.tmod (wrap64 (Int.tdiv (wrap64 (-a)) 60)) 10))) % 256,(wrap64 (48+(wrap64 (Int.tdiv (Int.tmod (wrap64 (-a)) 60) 10)))) % 256,(wrap64 (48+(Int.tmod (wrap64 (-a)) 10))) % 256]:List Int):List Int)).bind fun s=>(if d.size+2≤9223372036854775807 then (if (d++(⟨#[32,60]⟩:ByteArray)).size+g.size≤9223372036854775807 then (if ((d++(⟨#[32,60]⟩:ByteArray))++g).size+2≤9223372036854775807 then ((g16Num.f k o).bind fun l=>(if (((d++(⟨#[32,60]⟩:ByteArray))++g)++(⟨#[62,32]⟩:ByteArray)).size+l.size≤9223372036854775807 then (if ((((d++(⟨#[32,60]⟩:ByteArray))++g)++(⟨#[62,32]⟩:ByteArray))++l).size+1≤9223372036854775807 then (if (((((d++(⟨#[32,60]⟩:ByteArray))++g)++(⟨#[62,32]⟩:ByteArray))++l)++(⟨#[32]⟩:ByteArray)).size+1≤9223372036854775807 then (if ((((((d++(⟨#[32,60]⟩:ByteArray))++g)++(⟨#[62,32]⟩:ByteArray))++l)++(⟨#[32]⟩:ByteArray))++(⟨#[45]⟩:ByteArray)).size+(strOfNums s).size≤9223372036854775807 then (some (((((((d++(⟨#[32,60]⟩:ByteArray))++g)++(⟨#[62,32]⟩:ByteArray))++l)++(⟨#[32]⟩:ByteArray))++(⟨#[45]⟩:ByteArray))++(strOfNums s))) else (none)) else (none)) else (none)) else (none))) else (none)) else (none)) else (none))) else ((some (([(wrap64 (48+(wrap64 (Int.tdiv a 600)))) % 256,(wrap64 (48+(Int.tmod (wrap64 (Int.tdiv a 60)) 10))) % 256,(wrap64 (48+(wrap64 (Int.tdiv (Int.tmod a 60) 10)))) % 256,(wrap64 (48+(Int.tmod a 10))) % 256]:List Int):List Int)).bind fun t=>(if d.size+2≤9223372036854775807 then (if (d++(⟨#[32,60]⟩:ByteArray)).size+g.size≤9223372036854775807 then (if ((d++(⟨#[32,60]⟩:ByteArray))++g).size+2≤9223372036854775807 then ((g16Num.f k o).bind fun m=>(if (((d++(⟨#[32,60]⟩:ByteArray))++g)++(⟨#[62,32]⟩:ByteArray)).size+m.size≤9223372036854775807 then (if ((((d++(⟨#[32,60]⟩:ByteArray))++g)++(⟨#[62,32]⟩:ByteArray))++m).size+1≤9223372036854775807 then (if (((((d++(⟨#[32,60]⟩:ByteArray))++g)++(⟨#[62,32]⟩:ByteArray))++m)++(⟨#[32]⟩:ByteArray)).size+1≤9223372036854775807 then (if ((((((d++(⟨#[32,60]⟩:ByteArray))++g)++(⟨#[62,32]⟩:ByteArray))++m)++(⟨#[32]⟩:ByteArray))++(⟨#[43]⟩:ByteArray)).size+(strOfNums t).size≤9223372036854775807 then (some (((((((d++(⟨#[32,60]⟩:ByteArray))++g)++(⟨#[62,32]⟩:ByteArray))++m)++(⟨#[32]⟩:ByteArray))++(⟨#[43]⟩:ByteArray))++(strOfNums t))) else (none)) else (none)) else (none)) else (none))) else (none)) else (none)) else (none))))=some r:=h;clear h;replace H:=zdd H;rcases H with ⟨ak,H⟩ | ⟨ak,H⟩
 ·obtain ⟨s,y⟩:=zy (α:=List Int) (([(wrap64 (48+(wrap64 (Int.tdiv (wrap64 (-a)) 600)))) % 256,(wrap64 (48+(Int.tmod (wrap64 (Int.tdiv (wrap64 (-a)) 60)) 10))) % 256,(wrap64 (48+(wrap64 (Int.tdiv (Int.tmod (wrap64 (-a)) 60) 10)))) % 256,(wrap64 (48+(Int.tmod (wrap64 (-a)) 10))) % 256]:List Int));replace H:(if d.size+2≤9223372036854775807 then (if (d++(⟨#[32,60]⟩:ByteArray)).size+g.size≤9223372036854775807 then (if ((d++(⟨#[32,60]⟩:ByteArray))++g).size+2≤9223372036854775807 then ((g16Num.f k o).bind fun l=>(if (((d++(⟨#[32,60]⟩:ByteArray))++g)++(⟨#[62,32]⟩:ByteArray)).size+l.size≤9223372036854775807 then (if ((((d++(⟨#[32,60]⟩:ByteArray))++g)++(⟨#[62,32]⟩:ByteArray))++l).size+1≤9223372036854775807 then (if (((((d++(⟨#[32,60]⟩:ByteArray))++g)++(⟨#[62,32]⟩:ByteArray))++l)++(⟨#[32]⟩:ByteArray)).size+1≤9223372036854775807 then (if ((((((d++(⟨#[32,60]⟩:ByteArray))++g)++(⟨#[62,32]⟩:ByteArray))++l)++(⟨#[32]⟩:ByteArray))++(⟨#[45]⟩:ByteArray)).size+(strOfNums s).size≤9223372036854775807 then (some (((((((d++(⟨#[32,60]⟩:ByteArray))++g)++(⟨#[62,32]⟩:ByteArray))++l)++(⟨#[32]⟩:ByteArray))++(⟨#[45]⟩:ByteArray))++(strOfNums s))) else (none)) else (none)) else (none)) else (none))) else (none)) else (none)) else (none))=some r:=zY y H;have A:=Aside0.mk y;clear y;replace H:=zcn H;obtain ⟨c3,a4,a5,H⟩:=H;(try have a6:(9223372036854775807 < d.size+2)=False:=eq_false (Nat.not_lt.2 c3));replace H:=zcn H;obtain ⟨c4,a8,a9,H⟩:=H;(try have L:(9223372036854775807 < (d++(⟨#[32,60]⟩:ByteArray)).size+g.size)=False:=eq_false (Nat.not_lt.2 c4));(try (have al:=L;simp only [ByteArray.size_append] at al));(try (have am:=L;simp only [ByteArray.size_append,show (⟨#[32,60]⟩:ByteArray).size=2 from rfl] at am));replace H:=zcn H;obtain ⟨c5,bb,bc,H⟩:=H;(try have O:(9223372036854775807 < ((d++(⟨#[32,60]⟩:ByteArray))++g).size+2)=False:=eq_false (Nat.not_lt.2 c5));(try (have an:=O;simp only [ByteArray.size_append] at an));(try (have ao:=O;simp only [ByteArray.size_append,show (⟨#[32,60]⟩:ByteArray).size=2 from rfl] at ao));replace H:=zbd H;obtain ⟨l,A6,H⟩:=H;replace H:=zcn H;obtain ⟨c7,bf,bg,H⟩:=H;(try have Q:(9223372036854775807 < (((d++(⟨#[32,60]⟩:ByteArray))++g)++(⟨#[62,32]⟩:ByteArray)).size+l.size)=False:=eq_false (Nat.not_lt.2 c7));(try (have ap:=Q;simp only [ByteArray.size_append] at ap));(try (have aq:=Q;simp only [ByteArray.size_append,show (⟨#[32,60]⟩:ByteArray).size=2 from rfl,show (⟨#[62,32]⟩:ByteArray).size=2 from rfl] at aq));replace H:=zcn H;obtain ⟨c8,bi,bj,H⟩:=H;(try have R:(9223372036854775807 < ((((d++(⟨#[32,60]⟩:ByteArray))++g)++(⟨#[62,32]⟩:ByteArray))++l).size+1)=False:=eq_false (Nat.not_lt.2 c8));(try (have ar:=R;simp only [ByteArray.size_append] at ar));(try (have au:=R;simp only [ByteArray.size_append,show (⟨#[32,60]⟩:ByteArray).size=2 from rfl,show (⟨#[62,32]⟩:ByteArray).size=2 from rfl] at au));replace H:=zcn H;obtain ⟨c9,bl,bn,H⟩:=H;(try have T:(9223372036854775807 < (((((d++(⟨#[32,60]⟩:ByteArray))++g)++(⟨#[62,32]⟩:ByteArray))++l)++(⟨#[32]⟩:ByteArray)).size+1)=False:=eq_false (Nat.not_lt.2 c9));(try (have av:=T;simp only [ByteArray.size_append] at av));(try (have aw:=T;simp only [ByteArray.size_append,show (⟨#[32,60]⟩:ByteArray).size=2 from rfl,show (⟨#[32]⟩:ByteArray).size=1 from rfl,show (⟨#[62,32]⟩:ByteArray).size=2 from rfl] at aw));replace H:=zcn H;obtain ⟨ax,aL,aM,H⟩:=H;(try have B:(9223372036854775807 < ((((((d++(⟨#[32,60]⟩:ByteArray))++g)++(⟨#[62,32]⟩:ByteArray))++l)++(⟨#[32]⟩:ByteArray))++(⟨#[45]⟩:ByteArray)).size+(strOfNums s).size)=False:=eq_false (Nat.not_lt.2 ax));(try (have U:=B;simp only [ByteArray.size_append] at U));(try (have V:=B;simp only [ByteArray.size_append,show (⟨#[32,60]⟩:ByteArray).size=2 from rfl,show (⟨#[32]⟩:ByteArray).size=1 from rfl,show (⟨#[45]⟩:ByteArray).size=1 from rfl,show (⟨#[62,32]⟩:ByteArray).size=2 from rfl] at V));obtain rfl:=Option.some.inj H;go_enter Tryz.func35,Tryz.ntmps35;(try go_wp2_with (first | ((with_reducible refine zgd 1 ?_);refine zBx 1 #[.string d,.string g,.int .i64 o,.int .i64 a] 51 ?_;intro j hg ay hbox hb;have c:=Aside0.mk (hbox);have W:=zGE HB hg;have X:=zGE HB hg;replace HB:=zbs HB hb;clear hb hbox hg)));replace c:=Aside0.mk (blk_drew c.out);replace HB:=Aside0.mk (below_drew1 HB.out);refine start_ (n:=4) (S:=fun w'=>w'.cell? ⟨j,0,none⟩=some (.string d)∧w'.cell? ⟨j,1,none⟩=some (.string g)∧w'.cell? ⟨j,2,none⟩=some (.int .i64 o)∧w'.cell? ⟨j,3,none⟩=some (.int .i64 a)) (ds:=[]) (bm 4 0) (by kernel_rfl) rfl rfl ⟨(blk_cell c.out 0).trans rfl,(blk_cell c.out 1).trans rfl,(blk_cell c.out 2).trans rfl,(blk_cell c.out 3).trans rfl⟩ (fun hHeld=>?_);generalize ay.drew=bt at c HB hHeld ⊢;refine pure_ (i:=0) (N:=some 6) (v:=?_) (a':=?_) (bm 4 1) rfl rfl (by kernel_rfl) (fun _ _ _ h=>h) (Or.inl ⟨by rfl,?_⟩) ?_ ?_;rotate_left
  ·intro w';go_simp;(with_reducible rfl)
  rotate_left
  ·simp only [Act.put,List.setIfInBounds_toArray,List.set_cons_zero,List.set_cons_succ,i64_w,i32_w];rfl
  refine pure_ (i:=2) (N:=some 3) (v:=?_) (a':=?_) (bm 4 5) rfl rfl (by kernel_rfl) (fun _ _ _ h=>h) (Or.inl ⟨by rfl,?_⟩) ?_ ?_;rotate_left
  ·intro w';go_simp;(with_reducible rfl)
  rotate_left
  ·simp only [Act.put,List.setIfInBounds_toArray,List.set_cons_zero,List.set_cons_succ,i64_w,i32_w];rfl
  refine take_ (i:=1) (N:=some 7) (v:=?_) (a':=?_) (bm 4 7) rfl rfl (by kernel_rfl) (fun _ _ _ h=>h) (Or.inl ⟨by rfl,?_⟩) hHeld ?_ ?_;rotate_left
  ·rintro w' ⟨s0,s1,s2,s3⟩;go_simp;(with_reducible rfl)
  rotate_left
  ·simp only [Act.put,List.setIfInBounds_toArray,List.set_cons_zero,List.set_cons_succ,i64_w,i32_w];rfl
  refine pure_ (i:=3) (N:=some 4) (v:=?_) (a':=?_) (bm 4 15) rfl rfl (by kernel_rfl) (fun _ _ _ h=>h) (Or.inl ⟨by rfl,?_⟩) ?_ ?_;rotate_left
  ·intro w';go_simp;(with_reducible rfl)
  rotate_left
  ·simp only [Act.put,List.setIfInBounds_toArray,List.set_cons_zero,List.set_cons_succ,i64_w,i32_w];rfl
  refine done_ (by kernel_rfl) ?_;(try go_wp2_with (first | ((with_reducible refine zgd 30 ?_);refine Kd.R_lit (Kd.int .u8) _ 5 ?hg (N:=30) ?hd (xs:=([(wrap64 (48+(wrap64 (Int.tdiv (wrap64 (-a)) 600)))) % 256,(wrap64 (48+(Int.tmod (wrap64 (Int.tdiv (wrap64 (-a)) 60)) 10))) % 256,(wrap64 (48+(wrap64 (Int.tdiv (Int.tmod (wrap64 (-a)) 60) 10)))) % 256,(wrap64 (48+(Int.tmod (wrap64 (-a)) 10))) % 256]:List Int)) (inner:=[.int .u8 ((wrap64 (48+(wrap64 (Int.tdiv (wrap64 (-a)) 600)))) % 256),.int .u8 ((wrap64 (48+(Int.tmod (wrap64 (Int.tdiv (wrap64 (-a)) 60)) 10))) % 256),.int .u8 ((wrap64 (48+(wrap64 (Int.tdiv (Int.tmod (wrap64 (-a)) 60) 10)))) % 256),.int .u8 ((wrap64 (48+(Int.tmod (wrap64 (-a)) 10))) % 256)]) (ok:=fun _=>True) (okp:=fun _=>True) ?hr ?hp (fun _ hk=>hk) trivial (Below.refl _ _) (Nat.le_refl _) (by simp) ?_;(case hd=>rfl);(case hg=>rfl);(case hr=>first | (go_simp;done) | (go_simp;rfl));(case hp=>exact (Reps.one (show Kd.M (Kd.int .u8) _ _ _ ((wrap64 (48+(wrap64 (Int.tdiv (wrap64 (-a)) 600)))) % 256) [.int .u8 ((wrap64 (48+(wrap64 (Int.tdiv (wrap64 (-a)) 600)))) % 256)] from rfl) (Reps.one (show Kd.M (Kd.int .u8) _ _ _ ((wrap64 (48+(Int.tmod (wrap64 (Int.tdiv (wrap64 (-a)) 60)) 10))) % 256) [.int .u8 ((wrap64 (48+(Int.tmod (wrap64 (Int.tdiv (wrap64 (-a)) 60)) 10))) % 256)] from rfl) (Reps.one (show Kd.M (Kd.int .u8) _ _ _ ((wrap64 (48+(wrap64 (Int.tdiv (Int.tmod (wrap64 (-a)) 60) 10)))) % 256) [.int .u8 ((wrap64 (48+(wrap64 (Int.tdiv (Int.tmod (wrap64 (-a)) 60) 10)))) % 256)] from rfl) (Reps.one (show Kd.M (Kd.int .u8) _ _ _ ((wrap64 (48+(Int.tmod (wrap64 (-a)) 10))) % 256) [.int .u8 ((wrap64 (48+(Int.tmod (wrap64 (-a)) 10))) % 256)] from rfl) (Reps.none _ _))))));intro br az u hb hg_ hnew_;clear hg_ hnew_;(first | rw [← A.out] at u | (simp only [Int.reduceToNat] at u;rw [← A.out] at u));have p:=Aside0.mk (Kd.R_lower u (below_size zB));replace c:=zkb c hb;replace HB:=zbs HB hb;clear hb u;have hcv15:=own_string (P:=Tryz.prog) Tryz.underlying126 Tryz.underlying5 Tryz.underlying9 (Kd.own_of_R p.out))));replace p:=Aside0.mk (Kd.R_drew p.out);replace c:=Aside0.mk (blk_drew c.out);replace HB:=Aside0.mk (below_drew1 HB.out);refine start_ (n:=17) (S:=fun w'=>w'.cell? ⟨j,0,none⟩=some (.string d)∧w'.cell? ⟨j,1,none⟩=some (.string g)∧w'.cell? ⟨j,2,none⟩=some (.int .i64 o)∧w'.cell? ⟨j,3,none⟩=some (.int .i64 a)) (ds:=[]) (bm 17 0) (by kernel_rfl) rfl rfl ⟨(blk_cell c.out 0).trans rfl,(blk_cell c.out 1).trans rfl,(blk_cell c.out 2).trans rfl,(blk_cell c.out 3).trans rfl⟩ (fun hHeld=>?_);refine with_tabW g16Who.tab5 g16Who.bits5 (fun HT_ HW_=>?_);generalize az.drew=bu at p c HB hHeld ⊢;refine zPu 0 32 1 ?_;refine zPu 3 35 9 ?_;refine zPu 7 39 137 ?_;refine zPu 12 44 4233 ?_;refine zPu 14 46 20617 ?_;refine zTk 1 33 20619 ?_;refine zPu 2 34 20623 ?_;refine zTk 4 36 20639 ?_;refine zPu 5 37 20671 ?_;refine zPu 6 38 20735 ?_;refine zTk 8 40 20991 ?_;refine zOn 9 41 21503 fun K hK=>?_;refine zGo Tryz.func61 #[.int .i64 o] ?_;(with_reducible refine (g16Num.calls k o l _ A6.out).mono ?_);rintro e bv ⟨rfl,hb⟩;refine ⟨_,rfl,?_⟩;replace p:=Aside0.mk (Kd.R_below (zR p) hb);replace c:=zkb c hb;replace HB:=zbs HB hb;clear hb;refine hK.out _ _ ⟨(blk_cell c.out 0).trans rfl,(blk_cell c.out 1).trans rfl,(blk_cell c.out 2).trans rfl,(blk_cell c.out 3).trans rfl⟩ (fun hHeld=>?_);clear hK K;refine norm_ (a':=?_) ?_ ?_;rotate_left
  ·show Act.put _ (some 41) _=_;simp only [Act.put,List.setIfInBounds_toArray,List.set_cons_zero,List.set_cons_succ,i64_w,i32_w];rfl
  refine zPu 10 42 22527 ?_;refine zPu 11 43 24575 ?_;refine zPu 13 45 32767 ?_;refine zPu 15 47 65535 ?_;refine zPu 16 2 131071 ?_;refine done_ (done_of HT_.out (by kernel_rfl)) ?_;(try go_wp2);go_ret;exact ⟨zW,zB⟩
 ·obtain ⟨t,z⟩:=zy (α:=List Int) (([(wrap64 (48+(wrap64 (Int.tdiv a 600)))) % 256,(wrap64 (48+(Int.tmod (wrap64 (Int.tdiv a 60)) 10))) % 256,(wrap64 (48+(wrap64 (Int.tdiv (Int.tmod a 60) 10)))) % 256,(wrap64 (48+(Int.tmod a 10))) % 256]:List Int));replace H:(if d.size+2≤9223372036854775807 then (if (d++(⟨#[32,60]⟩:ByteArray)).size+g.size≤9223372036854775807 then (if ((d++(⟨#[32,60]⟩:ByteArray))++g).size+2≤9223372036854775807 then ((g16Num.f k o).bind fun m=>(if (((d++(⟨#[32,60]⟩:ByteArray))++g)++(⟨#[62,32]⟩:ByteArray)).size+m.size≤9223372036854775807 then (if ((((d++(⟨#[32,60]⟩:ByteArray))++g)++(⟨#[62,32]⟩:ByteArray))++m).size+1≤9223372036854775807 then (if (((((d++(⟨#[32,60]⟩:ByteArray))++g)++(⟨#[62,32]⟩:ByteArray))++m)++(⟨#[32]⟩:ByteArray)).size+1≤9223372036854775807 then (if ((((((d++(⟨#[32,60]⟩:ByteArray))++g)++(⟨#[62,32]⟩:ByteArray))++m)++(⟨#[32]⟩:ByteArray))++(⟨#[43]⟩:ByteArray)).size+(strOfNums t).size≤9223372036854775807 then (some (((((((d++(⟨#[32,60]⟩:ByteArray))++g)++(⟨#[62,32]⟩:ByteArray))++m)++(⟨#[32]⟩:ByteArray))++(⟨#[43]⟩:ByteArray))++(strOfNums t))) else (none)) else (none)) else (none)) else (none))) else (none)) else (none)) else (none))=some r:=zY z H;have C:=Aside0.mk z;clear z;replace H:=zcn H;obtain ⟨aB,aN,aO,H⟩:=H;(try have aP:(9223372036854775807 < d.size+2)=False:=eq_false (Nat.not_lt.2 aB));replace H:=zcn H;obtain ⟨aC,aQ,aR,H⟩:=H;(try have D:(9223372036854775807 < (d++(⟨#[32,60]⟩:ByteArray)).size+g.size)=False:=eq_false (Nat.not_lt.2 aC));(try (have Y:=D;simp only [ByteArray.size_append] at Y));(try (have Z:=D;simp only [ByteArray.size_append,show (⟨#[32,60]⟩:ByteArray).size=2 from rfl] at Z));replace H:=zcn H;obtain ⟨aD,aS,aT,H⟩:=H;(try have E:(9223372036854775807 < ((d++(⟨#[32,60]⟩:ByteArray))++g).size+2)=False:=eq_false (Nat.not_lt.2 aD));(try (have aa:=E;simp only [ByteArray.size_append] at aa));(try (have ab:=E;simp only [ByteArray.size_append,show (⟨#[32,60]⟩:ByteArray).size=2 from rfl] at ab));replace H:=zbd H;obtain ⟨m,aE,H⟩:=H;replace H:=zcn H;obtain ⟨aF,aU,aV,H⟩:=H;(try have F:(9223372036854775807 < (((d++(⟨#[32,60]⟩:ByteArray))++g)++(⟨#[62,32]⟩:ByteArray)).size+m.size)=False:=eq_false (Nat.not_lt.2 aF));(try (have ac:=F;simp only [ByteArray.size_append] at ac));(try (have ad:=F;simp only [ByteArray.size_append,show (⟨#[32,60]⟩:ByteArray).size=2 from rfl,show (⟨#[62,32]⟩:ByteArray).size=2 from rfl] at ad));replace H:=zcn H;obtain ⟨aG,aW,aX,H⟩:=H;(try have G:(9223372036854775807 < ((((d++(⟨#[32,60]⟩:ByteArray))++g)++(⟨#[62,32]⟩:ByteArray))++m).size+1)=False:=eq_false (Nat.not_lt.2 aG));(try (have ae:=G;simp only [ByteArray.size_append] at ae));(try (have af:=G;simp only [ByteArray.size_append,show (⟨#[32,60]⟩:ByteArray).size=2 from rfl,show (⟨#[62,32]⟩:ByteArray).size=2 from rfl] at af));replace H:=zcn H;obtain ⟨aH,aY,aZ,H⟩:=H;(try have I:(9223372036854775807 < (((((d++(⟨#[32,60]⟩:ByteArray))++g)++(⟨#[62,32]⟩:ByteArray))++m)++(⟨#[32]⟩:ByteArray)).size+1)=False:=eq_false (Nat.not_lt.2 aH));(try (have ag:=I;simp only [ByteArray.size_append] at ag));(try (have ah:=I;simp only [ByteArray.size_append,show (⟨#[32,60]⟩:ByteArray).size=2 from rfl,show (⟨#[32]⟩:ByteArray).size=1 from rfl,show (⟨#[62,32]⟩:ByteArray).size=2 from rfl] at ah));replace H:=zcn H;obtain ⟨aI,a0,a1,H⟩:=H;(try have J:(9223372036854775807 < ((((((d++(⟨#[32,60]⟩:ByteArray))++g)++(⟨#[62,32]⟩:ByteArray))++m)++(⟨#[32]⟩:ByteArray))++(⟨#[43]⟩:ByteArray)).size+(strOfNums t).size)=False:=eq_false (Nat.not_lt.2 aI));(try (have ai:=J;simp only [ByteArray.size_append] at ai));(try (have aj:=J;simp only [ByteArray.size_append,show (⟨#[32,60]⟩:ByteArray).size=2 from rfl,show (⟨#[32]⟩:ByteArray).size=1 from rfl,show (⟨#[43]⟩:ByteArray).size=1 from rfl,show (⟨#[62,32]⟩:ByteArray).size=2 from rfl] at aj));obtain rfl:=Option.some.inj H;go_enter Tryz.func35,Tryz.ntmps35;(try go_wp2_with (first | ((with_reducible refine zgd 1 ?_);refine zBx 1 #[.string d,.string g,.int .i64 o,.int .i64 a] 51 ?_;intro j hg aJ hbox hb;have c:=Aside0.mk (hbox);have W:=zGE HB hg;have X:=zGE HB hg;replace HB:=zbs HB hb;clear hb hbox hg)));replace c:=Aside0.mk (blk_drew c.out);replace HB:=Aside0.mk (below_drew1 HB.out);refine start_ (n:=4) (S:=fun w'=>w'.cell? ⟨j,0,none⟩=some (.string d)∧w'.cell? ⟨j,1,none⟩=some (.string g)∧w'.cell? ⟨j,2,none⟩=some (.int .i64 o)∧w'.cell? ⟨j,3,none⟩=some (.int .i64 a)) (ds:=[]) (bm 4 0) (by kernel_rfl) rfl rfl ⟨(blk_cell c.out 0).trans rfl,(blk_cell c.out 1).trans rfl,(blk_cell c.out 2).trans rfl,(blk_cell c.out 3).trans rfl⟩ (fun hHeld=>?_);generalize aJ.drew=bw at c HB hHeld ⊢;refine pure_ (i:=0) (N:=some 6) (v:=?_) (a':=?_) (bm 4 1) rfl rfl (by kernel_rfl) (fun _ _ _ h=>h) (Or.inl ⟨by rfl,?_⟩) ?_ ?_;rotate_left
  ·intro w';go_simp;(with_reducible rfl)
  rotate_left
  ·simp only [Act.put,List.setIfInBounds_toArray,List.set_cons_zero,List.set_cons_succ,i64_w,i32_w];rfl
  refine pure_ (i:=2) (N:=some 3) (v:=?_) (a':=?_) (bm 4 5) rfl rfl (by kernel_rfl) (fun _ _ _ h=>h) (Or.inl ⟨by rfl,?_⟩) ?_ ?_;rotate_left
  ·intro w';go_simp;(with_reducible rfl)
  rotate_left
  ·simp only [Act.put,List.setIfInBounds_toArray,List.set_cons_zero,List.set_cons_succ,i64_w,i32_w];rfl
  refine take_ (i:=1) (N:=some 7) (v:=?_) (a':=?_) (bm 4 7) rfl rfl (by kernel_rfl) (fun _ _ _ h=>h) (Or.inl ⟨by rfl,?_⟩) hHeld ?_ ?_;rotate_left
  ·rintro w' ⟨s0,s1,s2,s3⟩;go_simp;(with_reducible rfl)
  rotate_left
  ·simp only [Act.put,List.setIfInBounds_toArray,List.set_cons_zero,List.set_cons_succ,i64_w,i32_w];rfl
  refine pure_ (i:=3) (N:=some 4) (v:=?_) (a':=?_) (bm 4 15) rfl rfl (by kernel_rfl) (fun _ _ _ h=>h) (Or.inl ⟨by rfl,?_⟩) ?_ ?_;rotate_left
  ·intro w';go_simp;(with_reducible rfl)
  rotate_left
  ·simp only [Act.put,List.setIfInBounds_toArray,List.set_cons_zero,List.set_cons_succ,i64_w,i32_w];rfl
  refine done_ (by kernel_rfl) ?_;(try go_wp2_with (first | ((with_reducible refine zgd 30 ?_);refine Kd.R_lit (Kd.int .u8) _ 5 ?hg (N:=30) ?hd (xs:=([(wrap64 (48+(wrap64 (Int.tdiv a 600)))) % 256,(wrap64 (48+(Int.tmod (wrap64 (Int.tdiv a 60)) 10))) % 256,(wrap64 (48+(wrap64 (Int.tdiv (Int.tmod a 60) 10)))) % 256,(wrap64 (48+(Int.tmod a 10))) % 256]:List Int)) (inner:=[.int .u8 ((wrap64 (48+(wrap64 (Int.tdiv a 600)))) % 256),.int .u8 ((wrap64 (48+(Int.tmod (wrap64 (Int.tdiv a 60)) 10))) % 256),.int .u8 ((wrap64 (48+(wrap64 (Int.tdiv (Int.tmod a 60) 10)))) % 256),.int .u8 ((wrap64 (48+(Int.tmod a 10))) % 256)]) (ok:=fun _=>True) (okp:=fun _=>True) ?hr ?hp (fun _ hk=>hk) trivial (Below.refl _ _) (Nat.le_refl _) (by simp) ?_;(case hd=>rfl);(case hg=>rfl);(case hr=>first | (go_simp;done) | (go_simp;rfl));(case hp=>exact (Reps.one (show Kd.M (Kd.int .u8) _ _ _ ((wrap64 (48+(wrap64 (Int.tdiv a 600)))) % 256) [.int .u8 ((wrap64 (48+(wrap64 (Int.tdiv a 600)))) % 256)] from rfl) (Reps.one (show Kd.M (Kd.int .u8) _ _ _ ((wrap64 (48+(Int.tmod (wrap64 (Int.tdiv a 60)) 10))) % 256) [.int .u8 ((wrap64 (48+(Int.tmod (wrap64 (Int.tdiv a 60)) 10))) % 256)] from rfl) (Reps.one (show Kd.M (Kd.int .u8) _ _ _ ((wrap64 (48+(wrap64 (Int.tdiv (Int.tmod a 60) 10)))) % 256) [.int .u8 ((wrap64 (48+(wrap64 (Int.tdiv (Int.tmod a 60) 10)))) % 256)] from rfl) (Reps.one (show Kd.M (Kd.int .u8) _ _ _ ((wrap64 (48+(Int.tmod a 10))) % 256) [.int .u8 ((wrap64 (48+(Int.tmod a 10))) % 256)] from rfl) (Reps.none _ _))))));intro bs aK x hb hg_ hnew_;clear hg_ hnew_;(first | rw [← C.out] at x | (simp only [Int.reduceToNat] at x;rw [← C.out] at x));have q:=Aside0.mk (Kd.R_lower x (below_size zB));replace c:=zkb c hb;replace HB:=zbs HB hb;clear hb x;have hcv30:=own_string (P:=Tryz.prog) Tryz.underlying126 Tryz.underlying5 Tryz.underlying9 (Kd.own_of_R q.out))));replace q:=Aside0.mk (Kd.R_drew q.out);replace c:=Aside0.mk (blk_drew c.out);replace HB:=Aside0.mk (below_drew1 HB.out);refine start_ (n:=17) (S:=fun w'=>w'.cell? ⟨j,0,none⟩=some (.string d)∧w'.cell? ⟨j,1,none⟩=some (.string g)∧w'.cell? ⟨j,2,none⟩=some (.int .i64 o)∧w'.cell? ⟨j,3,none⟩=some (.int .i64 a)) (ds:=[]) (bm 17 0) (by kernel_rfl) rfl rfl ⟨(blk_cell c.out 0).trans rfl,(blk_cell c.out 1).trans rfl,(blk_cell c.out 2).trans rfl,(blk_cell c.out 3).trans rfl⟩ (fun hHeld=>?_);refine with_tabW g16Who.tab5 g16Who.bits5 (fun HT_ HW_=>?_);generalize aK.drew=bx at q c HB hHeld ⊢;refine zPu 0 32 1 ?_;refine zPu 3 35 9 ?_;refine zPu 7 39 137 ?_;refine zPu 12 44 4233 ?_;refine zPu 14 46 20617 ?_;refine zTk 1 33 20619 ?_;refine zPu 2 34 20623 ?_;refine zTk 4 36 20639 ?_;refine zPu 5 37 20671 ?_;refine zPu 6 38 20735 ?_;refine zTk 8 40 20991 ?_;refine zOn 9 41 21503 fun K hK=>?_;refine zGo Tryz.func61 #[.int .i64 o] ?_;(with_reducible refine (g16Num.calls k o m _ aE.out).mono ?_);rintro e bz ⟨rfl,hb⟩;refine ⟨_,rfl,?_⟩;replace q:=Aside0.mk (Kd.R_below (zR q) hb);replace c:=zkb c hb;replace HB:=zbs HB hb;clear hb;refine hK.out _ _ ⟨(blk_cell c.out 0).trans rfl,(blk_cell c.out 1).trans rfl,(blk_cell c.out 2).trans rfl,(blk_cell c.out 3).trans rfl⟩ (fun hHeld=>?_);clear hK K;refine norm_ (a':=?_) ?_ ?_;rotate_left
  ·show Act.put _ (some 41) _=_;simp only [Act.put,List.setIfInBounds_toArray,List.set_cons_zero,List.set_cons_succ,i64_w,i32_w];rfl
  refine zPu 10 42 22527 ?_;refine zPu 11 43 24575 ?_;refine zPu 13 45 32767 ?_;refine zPu 15 47 65535 ?_;refine zPu 16 2 131071 ?_;refine done_ (done_of HT_.out (by kernel_rfl)) ?_;(try go_wp2);go_ret;exact ⟨zW,zB⟩
end Go.Proofs.YtninnmdpnoebaaaGreatDoor.PRa
end
section
namespace Go.Proofs.YtninnmdpnoebaaaGreatDoor.PRa
open Go.Proofs.YtninnmdpnoebaaaGreatDoor.Sq Go.Proofs.YtninnmdpnoebaaaGreatDoor.Hand Go.RowKit Go.Proofs.YtninnmdpnoebaaaGreatDoorW.PrintWords Go.Proofs.YtninnmdpnoebaaaGreatDoorW.PrintLast Go.Proofs.YtninnmdpnoebaaaGreatDoorW.PrintMore
attribute [local go_sem] max2_int min2_int max_two min_two max_three min_three max_four min_four
set_option linter.unusedVariables false
set_option linter.unusedSimpArgs false
def g16Body.l0:Nat→ByteArray→Int→ByteArray→List ByteArray→ByteArray→ByteArray→Int→Int→ByteArray→ByteArray→Int→Int→ByteArray→Option (ByteArray × Int)
 | 0,_,_,_,_,_,_,_,_,_,_,_,_,_=>none
 | k+1,d,q,r,a,e,g,h,i,j,l,m,o,b=>if q < (a.length:Int) then (if d.size+7≤9223372036854775807 then (if 0≤q then (if (d++(⟨#[112,97,114,101,110,116,32]⟩:ByteArray)).size+(rdOf ByteArray.empty a q).size≤9223372036854775807 then (if ((d++(⟨#[112,97,114,101,110,116,32]⟩:ByteArray))++(rdOf ByteArray.empty a q)).size+1≤9223372036854775807 then (g16Body.l0 k (((d++(⟨#[112,97,114,101,110,116,32]⟩:ByteArray))++(rdOf ByteArray.empty a q))++(⟨#[10]⟩:ByteArray)) (wrap64 (q+1)) r a e g h i j l m o b) else (none)) else (none)) else (none)) else (none)) else (if d.size+7≤9223372036854775807 then ((g16Who.f k e g h i).bind fun c=>(if (d++(⟨#[97,117,116,104,111,114,32]⟩:ByteArray)).size+c.size≤9223372036854775807 then (if ((d++(⟨#[97,117,116,104,111,114,32]⟩:ByteArray))++c).size+11≤9223372036854775807 then ((g16Who.f k j l m o).bind fun p=>(if (((d++(⟨#[97,117,116,104,111,114,32]⟩:ByteArray))++c)++(⟨#[10,99,111,109,109,105,116,116,101,114,32]⟩:ByteArray)).size+p.size≤9223372036854775807 then (if ((((d++(⟨#[97,117,116,104,111,114,32]⟩:ByteArray))++c)++(⟨#[10,99,111,109,109,105,116,116,101,114,32]⟩:ByteArray))++p).size+2≤9223372036854775807 then (if (((((d++(⟨#[97,117,116,104,111,114,32]⟩:ByteArray))++c)++(⟨#[10,99,111,109,109,105,116,116,101,114,32]⟩:ByteArray))++p)++(⟨#[10,10]⟩:ByteArray)).size+b.size≤9223372036854775807 then (some ((((((d++(⟨#[97,117,116,104,111,114,32]⟩:ByteArray))++c)++(⟨#[10,99,111,109,109,105,116,116,101,114,32]⟩:ByteArray))++p)++(⟨#[10,10]⟩:ByteArray))++b,0)) else (none)) else (none)) else (none))) else (none)) else (none))) else (none))
def g16Body.f (k:Nat) (a:ByteArray) (c:List ByteArray) (d:ByteArray) (e:ByteArray) (g:Int) (h:Int) (i:ByteArray) (j:ByteArray) (l:Int) (m:Int) (b:ByteArray):Option (ByteArray × Int):=(g16Check.f k a c d e g h i j l m b).bind fun o=>(if o=0 then (if 5+a.size≤9223372036854775807 then (if ((⟨#[116,114,101,101,32]⟩:ByteArray)++a).size+1≤9223372036854775807 then (g16Body.l0 k (((⟨#[116,114,101,101,32]⟩:ByteArray)++a)++(⟨#[10]⟩:ByteArray)) 0 a c d e g h i j l m b) else (none)) else (none)) else (some ((⟨#[]⟩:ByteArray),o)))
def g16Body.T9:Bool × List (List Nat × List Nat):=(true,[([],[]),([0],[0]),([],[]),([2],[2]),([3],[3]),([1,4],[1,4]),([5],[5]),([],[]),([7],[7]),([8,4],[8]),([6,9],[6,9]),([10],[10]),([],[]),([12],[12]),([11,13],[11,13]),([14,9,0,1,2,3,4,5,6,7,8,9,10,11,12,13,14],[14]),([15,0,1,2,3,4,5,6,7,8,9,10,11,12,13,14,15],[])])
def g16Body.B9:List Nat:=[0,1,0,4,12,31,63,0,128,412,1023,2047,0,4096,16383,32767,65535]
theorem g16Body.tab9:rtab .any (opsOf Tryz.f19 9)=g16Body.T9:=by kernel_rfl
theorem g16Body.bits9:waitsOk g16Body.T9.2 g16Body.B9=true:=by kernel_rfl
set_option maxHeartbeats 8000000 in
set_option maxRecDepth 100000 in
theorem g16Body.calls (k:Nat) (b:ByteArray) (u:Option Addr) (v:Nat) (c:List ByteArray) (i:ByteArray) (j:ByteArray) (l:Int) (m:Int) (o:ByteArray) (p:ByteArray) (q:Int) (r:Int) (d:ByteArray) (r1:ByteArray) (r2:Int) (w:World) (J:Kd.C Kd.string w u c.length c) (L:c.length≤v) (h:g16Body.f k b c i j l m o p q r d=some (r1,r2)) :
  Calls Tryz.prog 19 #[.agg #[.string b,.slice u c.length v,.string i,.string j,.int .i64 l,.int .i64 m,.string o,.string p,.int .i64 q,.int .i64 r,.string d]] w fun e w'=>e=.returned (.tuple #[.string r1,.int .i64 r2])∧Below w.heap.size w w':=by
 have bd:=Tryz.underlying57;have be:=Tryz.underlying51;have A:=Aside0.mk J;have M:=Aside0.mk L;clear J L;have HB:=Aside0.mk (Below.refl w.heap.size w);have H:((g16Check.f k b c i j l m o p q r d).bind fun y=>(if y=0 then (if 5+b.size≤9223372036854775807 then (if ((⟨#[116,114,101,101,32]⟩:ByteArray)++b).size+1≤9223372036854775807 then (g16Body.l0 k (((⟨#[116,114,101,101,32]⟩:ByteArray)++b)++(⟨#[10]⟩:ByteArray)) 0 b c i j l m o p q r d) else (none)) else (none)) else (some ((⟨#[]⟩:ByteArray),y))))=some (r1,r2):=h;clear h;replace H:=zbd H;obtain ⟨y,A2,H⟩:=H;replace H:=zbb H;rcases H with ⟨X,Y,H⟩ | ⟨c3,X,Y,H⟩
 ·by_cases W:5+b.size≤9223372036854775807
  ·rw [if_pos W] at H;have aw:=eq_true W;have ax:=decide_eq_true W;(try have ay:(9223372036854775807 < 5+b.size)=False:=eq_false (Nat.not_lt.2 W));replace H:=zcn H;obtain ⟨c5,az,aA,H⟩:=H;(try have F:(9223372036854775807 < ((⟨#[116,114,101,101,32]⟩:ByteArray)++b).size+1)=False:=eq_false (Nat.not_lt.2 c5));(try (have aB:=F;simp only [ByteArray.size_append] at aB));(try (have aC:=F;simp only [ByteArray.size_append,show (⟨#[116,114,101,101,32]⟩:ByteArray).size=5 from rfl] at aC));have H':=Aside0.mk H;clear H;go_enter Tryz.func19,Tryz.ntmps19;go_wp2_with (first | ((with_reducible refine zgd 1 ?_);refine zBx 1 #[.string b,.slice u c.length v,.string i,.string j,.int .i64 l,.int .i64 m,.string o,.string p,.int .i64 q,.int .i64 r,.string d] 57 ?_;intro g hg w6 hbox hb;have a:=Aside0.mk (hbox);have ac:=zGE HB hg;have ad:=zGE HB hg;replace HB:=zbs HB hb;clear hb hbox hg;have aG:=zF11 a) | ((with_reducible refine zgc 34 ?_);refine zGL 8 Tryz.func34 #[.agg #[.string b,.slice u c.length v,.string i,.string j,.int .i64 l,.int .i64 m,.string o,.string p,.int .i64 q,.int .i64 r,.string d]] ?_;(with_reducible refine (g16Check.calls k b _ _ c i j l m o p q r d y _ ?side1 ?side2 A2.out).mono ?_);(case side1=>repeat (first | exact (Kd.C_below A.out HB.out) | (with_reducible refine Kd.C_alloc ?_ _) | (with_reducible refine Kd.C_drewN ?_ _) | (with_reducible refine Kd.C_drew ?_)));(case side2=>exact M.out);rintro e w8 ⟨rfl,hb⟩;refine ⟨_,rfl,?_⟩;replace a:=zkb a hb;replace HB:=zbs HB hb;clear hb;have aH:=zF11 a));go_loopg [5,6] k (fun kq v5 v6 w'=>∃ (s:ByteArray) (t:Int),v5=.string s∧v6=.int .i64 t∧Aside0 (g16Body.l0 kq s t b c i j l m o p q r d=some (r1,r2))∧Aside0 (kq≤k)∧Aside0 (w'.heap[g]? = some (.cells #[.string b,(.slice u c.length v),.string i,.string j,.int .i64 l,.int .i64 m,.string o,.string p,.int .i64 q,.int .i64 r,.string d] 57 (0,0)))∧Aside0 (Below w.heap.size w w'))
   case atStart=>exact ⟨(((⟨#[116,114,101,101,32]⟩:ByteArray)++b)++(⟨#[10]⟩:ByteArray)),(0),zE,zE,H',⟨Nat.le_refl _⟩,⟨(zb a)⟩,⟨zB⟩⟩
   case round =>
    clear H' X Y W aw ax ay c5 az aA F aG aH;obtain ⟨s,t,rfl,rfl,HA,av,a,HB⟩:=hrel;cases gk with
    | zero=>exact absurd HA.out (by simp [g16Body.l0])
    | succ k1 =>
     have H:=HA.out;clear HA;simp only [g16Body.l0] at H;replace H:=zdd H;rcases H with ⟨ae,H⟩ | ⟨ae,H⟩
     ·by_cases D:s.size+7≤9223372036854775807
      ·rw [if_pos D] at H;have aR:=eq_true D;have aS:=decide_eq_true D;(try have aT:(9223372036854775807 < s.size+7)=False:=eq_false (Nat.not_lt.2 D));replace H:=zdn H;obtain ⟨aU,H⟩:=H;replace H:=zcn H;obtain ⟨aI,aV,aW,H⟩:=H;(try have N:(9223372036854775807 < (s++(⟨#[112,97,114,101,110,116,32]⟩:ByteArray)).size+(rdOf ByteArray.empty c t).size)=False:=eq_false (Nat.not_lt.2 aI));(try (have af:=N;simp only [ByteArray.size_append] at af));(try (have ag:=N;simp only [ByteArray.size_append,show (⟨#[112,97,114,101,110,116,32]⟩:ByteArray).size=7 from rfl] at ag));replace H:=zcn H;obtain ⟨aJ,aX,aY,H⟩:=H;(try have O:(9223372036854775807 < ((s++(⟨#[112,97,114,101,110,116,32]⟩:ByteArray))++(rdOf ByteArray.empty c t)).size+1)=False:=eq_false (Nat.not_lt.2 aJ));(try (have ah:=O;simp only [ByteArray.size_append] at ah));(try (have ai:=O;simp only [ByteArray.size_append,show (⟨#[112,97,114,101,110,116,32]⟩:ByteArray).size=7 from rfl] at ai));have H':=Aside0.mk H;clear H;have bi:=zF11 a;have G:0≤(t:Int):=zD;have I:t < (c.length:Int):=zD;obtain ⟨aZ,aD,z⟩:=Kd.at_string A.out t G I;cases aD;replace z:=zC z;replace G:=eq_true G;replace I:=eq_true I;go_wp2;go_roundg k1
       case measure=>have:=av.out;omega
       case rel=>exact ⟨(((s++(⟨#[112,97,114,101,110,116,32]⟩:ByteArray))++(rdOf ByteArray.empty c t))++(⟨#[10]⟩:ByteArray)),(wrap64 (t+1)),zE,zE,H',⟨by have:=av.out;omega⟩,⟨(zb a)⟩,⟨zB⟩⟩
      ·rw [if_neg D] at H;exact absurd H (by simp)
     ·by_cases E:s.size+7≤9223372036854775807
      ·rw [if_pos E] at H;have a0:=eq_true E;have a1:=decide_eq_true E;(try have a2:(9223372036854775807 < s.size+7)=False:=eq_false (Nat.not_lt.2 E));replace H:=zbd H;obtain ⟨x,aK,H⟩:=H;replace H:=zcn H;obtain ⟨aL,a3,a4,H⟩:=H;(try have Q:(9223372036854775807 < (s++(⟨#[97,117,116,104,111,114,32]⟩:ByteArray)).size+x.size)=False:=eq_false (Nat.not_lt.2 aL));(try (have aj:=Q;simp only [ByteArray.size_append] at aj));(try (have ak:=Q;simp only [ByteArray.size_append,show (⟨#[97,117,116,104,111,114,32]⟩:ByteArray).size=7 from rfl] at ak));replace H:=zcn H;obtain ⟨aM,a5,a6,H⟩:=H;(try have R:(9223372036854775807 < ((s++(⟨#[97,117,116,104,111,114,32]⟩:ByteArray))++x).size+11)=False:=eq_false (Nat.not_lt.2 aM));(try (have al:=R;simp only [ByteArray.size_append] at al));(try (have am:=R;simp only [ByteArray.size_append,show (⟨#[97,117,116,104,111,114,32]⟩:ByteArray).size=7 from rfl] at am));replace H:=zbd H;obtain ⟨B,aN,H⟩:=H;replace H:=zcn H;obtain ⟨aO,a7,a8,H⟩:=H;(try have T:(9223372036854775807 < (((s++(⟨#[97,117,116,104,111,114,32]⟩:ByteArray))++x)++(⟨#[10,99,111,109,109,105,116,116,101,114,32]⟩:ByteArray)).size+B.size)=False:=eq_false (Nat.not_lt.2 aO));(try (have an:=T;simp only [ByteArray.size_append] at an));(try (have ao:=T;simp only [ByteArray.size_append,show (⟨#[10,99,111,109,109,105,116,116,101,114,32]⟩:ByteArray).size=11 from rfl,show (⟨#[97,117,116,104,111,114,32]⟩:ByteArray).size=7 from rfl] at ao));replace H:=zcn H;obtain ⟨aP,a9,ba,H⟩:=H;(try have U:(9223372036854775807 < ((((s++(⟨#[97,117,116,104,111,114,32]⟩:ByteArray))++x)++(⟨#[10,99,111,109,109,105,116,116,101,114,32]⟩:ByteArray))++B).size+2)=False:=eq_false (Nat.not_lt.2 aP));(try (have ap:=U;simp only [ByteArray.size_append] at ap));(try (have aq:=U;simp only [ByteArray.size_append,show (⟨#[10,99,111,109,109,105,116,116,101,114,32]⟩:ByteArray).size=11 from rfl,show (⟨#[97,117,116,104,111,114,32]⟩:ByteArray).size=7 from rfl] at aq));replace H:=zcn H;obtain ⟨aQ,bb,bc,H⟩:=H;(try have V:(9223372036854775807 < (((((s++(⟨#[97,117,116,104,111,114,32]⟩:ByteArray))++x)++(⟨#[10,99,111,109,109,105,116,116,101,114,32]⟩:ByteArray))++B)++(⟨#[10,10]⟩:ByteArray)).size+d.size)=False:=eq_false (Nat.not_lt.2 aQ));(try (have ar:=V;simp only [ByteArray.size_append] at ar));(try (have au:=V;simp only [ByteArray.size_append,show (⟨#[10,10]⟩:ByteArray).size=2 from rfl,show (⟨#[10,99,111,109,109,105,116,116,101,114,32]⟩:ByteArray).size=11 from rfl,show (⟨#[97,117,116,104,111,114,32]⟩:ByteArray).size=7 from rfl] at au));simp only [Option.some.injEq,Prod.mk.injEq] at H;obtain ⟨rfl,rfl⟩:=H;have bj:=zF11 a;(try go_wp2);replace a:=Aside0.mk (blk_drew a.out);replace HB:=Aside0.mk (below_drew1 HB.out);refine start_ (n:=17) (S:=fun w'=>w'.cell? ⟨g,0,none⟩=some (.string b)∧w'.cell? ⟨g,1,none⟩=some (.slice u c.length v)∧w'.cell? ⟨g,2,none⟩=some (.string i)∧w'.cell? ⟨g,3,none⟩=some (.string j)∧w'.cell? ⟨g,4,none⟩=some (.int .i64 l)∧w'.cell? ⟨g,5,none⟩=some (.int .i64 m)∧w'.cell? ⟨g,6,none⟩=some (.string o)∧w'.cell? ⟨g,7,none⟩=some (.string p)∧w'.cell? ⟨g,8,none⟩=some (.int .i64 q)∧w'.cell? ⟨g,9,none⟩=some (.int .i64 r)∧w'.cell? ⟨g,10,none⟩=some (.string d)) (ds:=[]) (bm 17 0) (by kernel_rfl) rfl rfl ⟨(blk_cell a.out 0).trans rfl,(blk_cell a.out 1).trans rfl,(blk_cell a.out 2).trans rfl,(blk_cell a.out 3).trans rfl,(blk_cell a.out 4).trans rfl,(blk_cell a.out 5).trans rfl,(blk_cell a.out 6).trans rfl,(blk_cell a.out 7).trans rfl,(blk_cell a.out 8).trans rfl,(blk_cell a.out 9).trans rfl,(blk_cell a.out 10).trans rfl⟩ (fun hHeld=>?_);refine with_tabW g16Body.tab9 g16Body.bits9 (fun HT_ HW_=>?_);generalize wr.drew=bl at a HB hHeld ⊢;refine zPu 0 32 1 ?_;refine zPu 1 33 3 ?_;refine zPu 2 34 7 ?_;refine zPu 7 39 135 ?_;refine zPu 12 44 4231 ?_;refine zTk 3 35 4239 ?_;refine zTk 8 40 4495 ?_;refine zTk 13 45 12687 ?_;refine zOn 4 36 12703 fun K hK=>?_;refine zGo Tryz.func35 #[.agg #[.string i,.string j,.int .i64 l,.int .i64 m]] ?_;(with_reducible refine (g16Who.calls k1 i j l m x _ aK.out).mono ?_);rintro e bn ⟨rfl,hb⟩;refine ⟨_,rfl,?_⟩;replace a:=zkb a hb;replace HB:=zbs HB hb;clear hb;refine hK.out _ _ ⟨(blk_cell a.out 0).trans rfl,(blk_cell a.out 1).trans rfl,(blk_cell a.out 2).trans rfl,(blk_cell a.out 3).trans rfl,(blk_cell a.out 4).trans rfl,(blk_cell a.out 5).trans rfl,(blk_cell a.out 6).trans rfl,(blk_cell a.out 7).trans rfl,(blk_cell a.out 8).trans rfl,(blk_cell a.out 9).trans rfl,(blk_cell a.out 10).trans rfl⟩ (fun hHeld=>?_);clear hK K;refine norm_ (a':=?_) ?_ ?_;rotate_left
       ·show Act.put _ (some 36) _=_;simp only [Act.put,List.setIfInBounds_toArray,List.set_cons_zero,List.set_cons_succ,i64_w,i32_w];rfl
       refine zPu 5 37 12735 ?_;refine zPu 6 38 12799 ?_;refine zOn 9 41 13311 fun K hK=>?_;refine zGo Tryz.func35 #[.agg #[.string o,.string p,.int .i64 q,.int .i64 r]] ?_;(with_reducible refine (g16Who.calls k1 o p q r B _ aN.out).mono ?_);rintro e bo ⟨rfl,hb⟩;refine ⟨_,rfl,?_⟩;replace a:=zkb a hb;replace HB:=zbs HB hb;clear hb;refine hK.out _ _ ⟨(blk_cell a.out 0).trans rfl,(blk_cell a.out 1).trans rfl,(blk_cell a.out 2).trans rfl,(blk_cell a.out 3).trans rfl,(blk_cell a.out 4).trans rfl,(blk_cell a.out 5).trans rfl,(blk_cell a.out 6).trans rfl,(blk_cell a.out 7).trans rfl,(blk_cell a.out 8).trans rfl,(blk_cell a.out 9).trans rfl,(blk_cell a.out 10).trans rfl⟩ (fun hHeld=>?_);clear hK K;refine norm_ (a':=?_) ?_ ?_;rotate_left
       ·show Act.put _ (some 41) _=_;simp only [Act.put,List.setIfInBounds_toArray,List.set_cons_zero,List.set_cons_succ,i64_w,i32_w];rfl
       refine zPu 10 42 14335 ?_;refine zPu 11 43 16383 ?_;refine zPu 14 46 32767 ?_;refine zPu 15 2 65535 ?_;refine zPu 16 3 131071 ?_;refine done_ (done_of HT_.out (by kernel_rfl)) ?_;(try go_wp2);go_ret2;exact ⟨zW,zB⟩
      ·rw [if_neg E] at H;exact absurd H (by simp)
  ·rw [if_neg W] at H;exact absurd H (by simp)
 ·simp only [Option.some.injEq,Prod.mk.injEq] at H;obtain ⟨rfl,rfl⟩:=H;go_enter Tryz.func19,Tryz.ntmps19;go_wp2_with (first | ((with_reducible refine zgd 1 ?_);refine zBx 1 #[.string b,.slice u c.length v,.string i,.string j,.int .i64 l,.int .i64 m,.string o,.string p,.int .i64 q,.int .i64 r,.string d] 57 ?_;intro g hg bp hbox hb;have a:=Aside0.mk (hbox);have ac:=zGE HB hg;have ad:=zGE HB hg;replace HB:=zbs HB hb;clear hb hbox hg;have bk:=zF11 a) | ((with_reducible refine zgc 34 ?_);refine zGL 8 Tryz.func34 #[.agg #[.string b,.slice u c.length v,.string i,.string j,.int .i64 l,.int .i64 m,.string o,.string p,.int .i64 q,.int .i64 r,.string d]] ?_;(with_reducible refine (g16Check.calls k b _ _ c i j l m o p q r d y _ ?side1 ?side2 A2.out).mono ?_);(case side1=>repeat (first | exact (Kd.C_below A.out HB.out) | (with_reducible refine Kd.C_alloc ?_ _) | (with_reducible refine Kd.C_drewN ?_ _) | (with_reducible refine Kd.C_drew ?_)));(case side2=>exact M.out);rintro e bq ⟨rfl,hb⟩;refine ⟨_,rfl,?_⟩;replace a:=zkb a hb;replace HB:=zbs HB hb;clear hb));go_ret2;exact ⟨zW,zB⟩
end Go.Proofs.YtninnmdpnoebaaaGreatDoor.PRa
end
section
namespace Go.Proofs.YtninnmdpnoebaaaGreatDoor.Hand
open Go.RowKit Go.Proofs.YtninnmdpnoebaaaGreatDoorW.PrintWords Go.Proofs.YtninnmdpnoebaaaGreatDoorW.PrintLast Go.Proofs.YtninnmdpnoebaaaGreatDoorW.PrintMore
open Go.Proofs.YtninnmdpnoebaaaGreatDoor.PRa
set_option linter.unusedVariables false
set_option linter.unusedSimpArgs false
def exT:ByteArray:=⟨#[54,101,102,49,57,98,52,49,50,50,53,99,53,51,54,57,102,49,99,49,48,52,100,52,53,100,56,100,56,53,101,102,97,57,98,48,53,55,98,53]⟩
def exOne:ByteArray:=⟨#[116,114,101,101,32,54,101,102,49,57,98,52,49,50,50,53,99,53,51,54,57,102,49,99,49,48,52,100,52,53,100,56,100,56,53,101,102,97,57,98,48,53,55,98,53,10,97,117,116,104,111,114,32,97,32,60,97,64,98,62,32,53,32,43,48,49,48,48,10,99,111,109,109,105,116,116,101,114,32,97,32,60,97,64,98,62,32,53,32,43,48,49,48,48,10,10,120,10]⟩
def exA:ByteArray:=⟨#[48,50,48,100,55,57,51,49,97,57,98,98,48,98,53,50,98,97,48,54,100,49,56,49,48,102,51,52,51,52,49,57,54,100,55,48,54,100,54,49]⟩
def exTwo:ByteArray:=⟨#[116,114,101,101,32,54,101,102,49,57,98,52,49,50,50,53,99,53,51,54,57,102,49,99,49,48,52,100,52,53,100,56,100,56,53,101,102,97,57,98,48,53,55,98,53,10,112,97,114,101,110,116,32,48,50,48,100,55,57,51,49,97,57,98,98,48,98,53,50,98,97,48,54,100,49,56,49,48,102,51,52,51,52,49,57,54,100,55,48,54,100,54,49,10,97,117,116,104,111,114,32,97,32,60,97,64,98,62,32,53,32,43,48,49,48,48,10,99,111,109,109,105,116,116,101,114,32,97,32,60,97,64,98,62,32,53,32,43,48,49,48,48,10,10,121,10]⟩
def exB:ByteArray:=⟨#[57,57,102,51,102,101,99,57,98,101,49,50,55,54,99,48,56,56,50,53,48,101,49,51,100,50,101,98,99,54,57,102,97,102,49,52,99,51,53,56]⟩
abbrev exI1:List S75:=[⟨exT,2,⟨#[]⟩⟩]
abbrev exI2:List S75:=[⟨exA,3,exOne⟩,⟨exT,2,⟨#[]⟩⟩]
abbrev exI3:List S75:=[⟨exA,3,exOne⟩,⟨exT,2,⟨#[]⟩⟩,⟨exB,3,exTwo⟩]
theorem ex_tree:g15Body.f 40 []=some (⟨#[]⟩,0):=by kernel_rfl
theorem ex_put1:g17Put.f 200 [] 2 ⟨#[]⟩=some (exI1,exT,0):=by kernel_rfl
theorem ex_one:g16Body.f 200 exT [] ⟨#[97]⟩ ⟨#[97,64,98]⟩ 5 60 ⟨#[97]⟩ ⟨#[97,64,98]⟩ 5 60 ⟨#[120,10]⟩=some (exOne,0):=by kernel_rfl
theorem ex_put2:g17Put.f 300 exI1 3 exOne=some (exI2,exA,0):=by kernel_rfl
theorem ex_two:g16Body.f 200 exT [exA] ⟨#[97]⟩ ⟨#[97,64,98]⟩ 5 60 ⟨#[97]⟩ ⟨#[97,64,98]⟩ 5 60 ⟨#[121,10]⟩=some (exTwo,0):=by kernel_rfl
theorem ex_put3:g17Put.f 300 exI2 3 exTwo=some (exI3,exB,0):=by kernel_rfl
theorem ex_read1:g16Parse.f 300 exOne=some (exT,[],⟨#[97]⟩,⟨#[97,64,98]⟩,5,60,⟨#[97]⟩,⟨#[97,64,98]⟩,5,60,⟨#[120,10]⟩,0):=by kernel_rfl
theorem ex_read2:g16Parse.f 300 exTwo=some (exT,[exA],⟨#[97]⟩,⟨#[97,64,98]⟩,5,60,⟨#[97]⟩,⟨#[97,64,98]⟩,5,60,⟨#[121,10]⟩,0):=by kernel_rfl
end Go.Proofs.YtninnmdpnoebaaaGreatDoor.Hand
end
section
namespace Go.Proofs
open Go.Shelf
def Tryz.keys38_ren:Go.Shelf.Ren:=⟨fun | 7=>38 | 10=>64 | n=>n,fun | 23=>84 | 26=>9 | 3=>85 | 28=>88 | 0=>0 | 27=>87 | 33=>70 | 4=>4 | n=>n,fun | n=>n⟩
theorem Tryz.keys38:Go.Proofs.SlLaysZ.n7 Tryz.prog Tryz.keys38_ren:={
  mixed:=by kernel_rfl
  f7:=⟨Tryz.f38.name,by decide,Tryz.func38.trans (congrArg some (by kernel_rfl))⟩
  f10:=⟨Tryz.f64.name,by decide,Tryz.func64.trans (congrArg some (by kernel_rfl))⟩
  t0:=Tryz.underlying0
  a0:=Tryz.isAgg0
  z0:=Tryz.sizeOf0
  v0:=Tryz.zeroValue0
  t4:=Tryz.underlying4
  a4:=Tryz.isAgg4
  z4:=Tryz.sizeOf4
  v4:=Tryz.zeroValue4
  t23:=Tryz.underlying84
  a23:=Tryz.isAgg84
  z23:=Tryz.sizeOf84
  v23:=Tryz.zeroValue84
  t26:=Tryz.underlying9
  a26:=Tryz.isAgg9
  z26:=Tryz.sizeOf9
  v26:=Tryz.zeroValue9
  t27:=Tryz.underlying87
  a27:=Tryz.isAgg87
  z27:=Tryz.sizeOf87
  v27:=Tryz.zeroValue87
  t28:=Tryz.underlying88
  a28:=Tryz.isAgg88
  z28:=Tryz.sizeOf88
  v28:=Tryz.zeroValue88
  t33:=Tryz.underlying70
  a33:=Tryz.isAgg70
  z33:=Tryz.sizeOf70
  v33:=Tryz.zeroValue70 }
def Tryz.sorted37_ren:Go.Shelf.Ren:=⟨fun | 6=>37 | 8=>62 | 9=>63 | 11=>87 | 13=>89 | 12=>88 | 23=>114 | 24=>115 | 14=>106 | 15=>107 | 16=>108 | 17=>109 | 18=>110 | 19=>111 | 20=>24 | 21=>112 | 22=>113 | 25=>131 | 26=>132 | 27=>133 | 28=>134 | 29=>135 | 30=>41 | 31=>148 | n=>n,fun | 26=>9 | 28=>88 | 24=>27 | 0=>0 | 3=>3 | 37=>68 | 48=>163 | 50=>158 | 4=>4 | 40=>167 | 39=>166 | 45=>43 | 5=>5 | 9=>9 | 51=>185 | 55=>189 | 57=>199 | 58=>200 | 33=>70 | n=>n,fun | n=>n⟩
theorem Tryz.sorted37:Go.Proofs.SlLaysZ.n6 Tryz.prog Tryz.sorted37_ren:={
  mixed:=by kernel_rfl
  f6:=⟨Tryz.f37.name,by decide,Tryz.func37.trans (congrArg some (by kernel_rfl))⟩
  f8:=⟨Tryz.f62.name,by decide,Tryz.func62.trans (congrArg some (by kernel_rfl))⟩
  f11:=⟨Tryz.f87.name,by decide,Tryz.func87.trans (congrArg some (by kernel_rfl))⟩
  t0:=Tryz.underlying0
  a0:=Tryz.isAgg0
  z0:=Tryz.sizeOf0
  v0:=Tryz.zeroValue0
  t24:=Tryz.underlying27
  a24:=Tryz.isAgg27
  z24:=Tryz.sizeOf27
  v24:=Tryz.zeroValue27
  t26:=Tryz.underlying9
  a26:=Tryz.isAgg9
  z26:=Tryz.sizeOf9
  v26:=Tryz.zeroValue9
  t28:=Tryz.underlying88
  a28:=Tryz.isAgg88
  z28:=Tryz.sizeOf88
  v28:=Tryz.zeroValue88
  i26:=by kernel_rfl }
def Tryz.sort63_ren:Go.Shelf.Ren:=⟨fun | 6=>63 | 8=>89 | 9=>88 | 19=>114 | 20=>115 | 21=>106 | 22=>107 | 23=>108 | 24=>109 | 25=>110 | 26=>111 | 27=>24 | 28=>112 | 29=>113 | 36=>131 | 31=>132 | 32=>133 | 37=>134 | 38=>135 | 39=>41 | 41=>148 | n=>n,fun | 27=>27 | 29=>9 | 3=>3 | 32=>68 | 26=>27 | 0=>0 | 44=>163 | 46=>158 | 4=>4 | 36=>167 | 35=>166 | 41=>43 | 5=>5 | 9=>9 | 53=>185 | 57=>189 | 63=>199 | 64=>200 | n=>n,fun | n=>n⟩
theorem Tryz.sort63:Go.Proofs.SlLaysM.n6 Tryz.prog Tryz.sort63_ren:={
  mixed:=by kernel_rfl
  f6:=⟨Tryz.f63.name,by decide,Tryz.func63.trans (congrArg some (by kernel_rfl))⟩
  f8:=Tryz.func89.trans (congrArg some (by kernel_rfl))
  f9:=⟨Tryz.f88.name,by decide,Tryz.func88.trans (congrArg some (by kernel_rfl))⟩
  f19:=Tryz.func114.trans (congrArg some (by kernel_rfl))
  f20:=Tryz.func115.trans (congrArg some (by kernel_rfl))
  f21:=⟨Tryz.f106.name,by decide,Tryz.func106.trans (congrArg some (by kernel_rfl))⟩
  f22:=⟨Tryz.f107.name,by decide,Tryz.func107.trans (congrArg some (by kernel_rfl))⟩
  f23:=⟨Tryz.f108.name,by decide,Tryz.func108.trans (congrArg some (by kernel_rfl))⟩
  f24:=⟨Tryz.f109.name,by decide,Tryz.func109.trans (congrArg some (by kernel_rfl))⟩
  f25:=⟨Tryz.f110.name,by decide,Tryz.func110.trans (congrArg some (by kernel_rfl))⟩
  f26:=⟨Tryz.f111.name,by decide,Tryz.func111.trans (congrArg some (by kernel_rfl))⟩
  f27:=⟨Tryz.f24.name,by decide,Tryz.func24.trans (congrArg some (by kernel_rfl))⟩
  f28:=⟨Tryz.f112.name,by decide,Tryz.func112.trans (congrArg some (by kernel_rfl))⟩
  f29:=⟨Tryz.f113.name,by decide,Tryz.func113.trans (congrArg some (by kernel_rfl))⟩
  f31:=Tryz.func132.trans (congrArg some (by kernel_rfl))
  f32:=Tryz.func133.trans (congrArg some (by kernel_rfl))
  f36:=⟨Tryz.f131.name,by decide,Tryz.func131.trans (congrArg some (by kernel_rfl))⟩
  f37:=⟨Tryz.f134.name,by decide,Tryz.func134.trans (congrArg some (by kernel_rfl))⟩
  f38:=⟨Tryz.f135.name,by decide,Tryz.func135.trans (congrArg some (by kernel_rfl))⟩
  f39:=⟨Tryz.f41.name,by decide,Tryz.func41.trans (congrArg some (by kernel_rfl))⟩
  f41:=⟨Tryz.f148.name,by decide,Tryz.func148.trans (congrArg some (by kernel_rfl))⟩
  t0:=Tryz.underlying0
  a0:=Tryz.isAgg0
  z0:=Tryz.sizeOf0
  v0:=Tryz.zeroValue0
  t3:=Tryz.underlying3
  a3:=Tryz.isAgg3
  z3:=Tryz.sizeOf3
  v3:=Tryz.zeroValue3
  t4:=Tryz.underlying4
  a4:=Tryz.isAgg4
  z4:=Tryz.sizeOf4
  v4:=Tryz.zeroValue4
  t5:=Tryz.underlying5
  a5:=Tryz.isAgg5
  z5:=Tryz.sizeOf5
  v5:=Tryz.zeroValue5
  t9:=Tryz.underlying9
  a9:=Tryz.isAgg9
  z9:=Tryz.sizeOf9
  v9:=Tryz.zeroValue9
  t26:=Tryz.underlying27
  a26:=Tryz.isAgg27
  z26:=Tryz.sizeOf27
  v26:=Tryz.zeroValue27
  t27:=Tryz.underlying27
  a27:=Tryz.isAgg27
  z27:=Tryz.sizeOf27
  v27:=Tryz.zeroValue27
  t29:=Tryz.underlying9
  a29:=Tryz.isAgg9
  z29:=Tryz.sizeOf9
  v29:=Tryz.zeroValue9
  t32:=Tryz.underlying68
  a32:=Tryz.isAgg68
  z32:=Tryz.sizeOf68
  v32:=Tryz.zeroValue68
  t35:=Tryz.underlying166
  a35:=Tryz.isAgg166
  z35:=Tryz.sizeOf166
  v35:=Tryz.zeroValue166
  t36:=Tryz.underlying167
  a36:=Tryz.isAgg167
  z36:=Tryz.sizeOf167
  v36:=Tryz.zeroValue167
  t41:=Tryz.underlying43
  a41:=Tryz.isAgg43
  z41:=Tryz.sizeOf43
  v41:=Tryz.zeroValue43
  t44:=Tryz.underlying163
  a44:=Tryz.isAgg163
  z44:=Tryz.sizeOf163
  v44:=Tryz.zeroValue163
  t46:=Tryz.underlying158
  a46:=Tryz.isAgg158
  z46:=Tryz.sizeOf158
  v46:=Tryz.zeroValue158
  t53:=Tryz.underlying185
  a53:=Tryz.isAgg185
  z53:=Tryz.sizeOf185
  v53:=Tryz.zeroValue185
  t57:=Tryz.underlying189
  a57:=Tryz.isAgg189
  z57:=Tryz.sizeOf189
  v57:=Tryz.zeroValue189
  t63:=Tryz.underlying199
  a63:=Tryz.isAgg199
  z63:=Tryz.sizeOf199
  v63:=Tryz.zeroValue199
  t64:=Tryz.underlying200
  a64:=Tryz.isAgg200
  z64:=Tryz.sizeOf200
  v64:=Tryz.zeroValue200 }
open Go.RowKit Go.Maps Go.Sort in
theorem Tryz.sorts37 (m:Nat):AnyZ.SortsIn Tryz.prog Tryz.sorted37_ren Fence.wide m :=
  ⟨fun blk off cap ss W hH hblk hsz=>callsIn_wide.2 (AnyM.slices_Sort_string Tryz.sort63 blk off cap ss W hH hblk hsz),
   fun p cap W=>callsIn_wide.2 (AnyM.slices_Sort_string_none Tryz.sort63 p cap W)⟩
open Go.RowKit Go.Maps Go.Sort in
theorem Tryz.maps_Keys_38 (mb:Option Nat) (W:World):CallsIn Fence.wide 5 Tryz.prog 38 #[.map mb] W fun e w'=>e=.returned (.func (.func 64) #[] #[.pointer (some ⟨W.heap.size,0,none⟩)])∧w'=W.alloc (.cells #[.map mb] 84) :=
  AnyZ.keys_in Tryz.keys38 Fence.wide 5 trivial rfl mb W
open Go.RowKit Go.Maps Go.Sort in
theorem Tryz.slices_Sorted_keys_37_38 {H:Type} (b nn:Nat) (D0:DataW H) (R:Value→Option (DataW H × List MemPlace)) (w:World) (hown:w.ownsMap Tryz.prog 9 R b nn D0) (hmax:Maps.size D0≤maxLen) (hbytes:Maps.size D0*16≤140737488355328) :
    CallsIn Fence.wide 5 Tryz.prog 37 #[.func (.func 64) #[] #[.pointer (some ⟨w.heap.size,0,none⟩)]] (w.alloc (.cells #[.map (some b)] 84)) fun e w'=>∃ (v:Value) (ss:List (List UInt8)),e=.returned v∧ss.Perm (strKeys D0) ∧
      w'.ownsRow (w.alloc (.cells #[.map (some b)] 84)).heap.size 9 1 v ss.length ((ss.mergeSort (fun x y=>decide (x≤y))).map encStr)∧(v=.slice none 0 0↔ss=[])∧Below (w.alloc (.cells #[.map (some b)] 84)).heap.size (w.alloc (.cells #[.map (some b)] 84)) w':=by
  have hbl:=hown.lt;have hseq:SeqGives Fence.wide 2 Tryz.prog 64 #[.pointer (some ⟨w.heap.size,0,none⟩)] encStr (fun ss=>ss.Perm (strKeys D0)) (Maps.size D0) (w.alloc (.cells #[.map (some b)] 84)) :=
    AnyZ.keys_gives (ρ:=Tryz.keys38_ren) { Tryz.keys38 with } Fence.wide _ trivial rfl (by omega) w.heap.size b nn D0 _ (by simp) (by simp) (by
      obtain ⟨es,clock,hb,Ft,hs,hD⟩:=hown
      exact ⟨es,clock,(Below.heap_alloc _ _ b hbl).trans hb,Ft,hs,hD⟩)
  exact AnyZ.sorted_in Tryz.sorted37 Fence.wide 5 trivial trivial trivial trivial rfl (by omega) (Tryz.sorts37 _) (enters_of Tryz.func63 (by kernel_rfl) rfl) 64 #[.pointer (some ⟨w.heap.size,0,none⟩)] trivial (enters_of Tryz.func64 (by kernel_rfl) rfl) _ _ hmax hbytes _ hseq
end Go.Proofs
end
