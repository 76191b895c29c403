/- The law RecurAlready: what its proof takes, part 3 of 8 (packed by wip/gen/pack.py: each section was a text of its own). -/
import Derived.Test.YtninnmdpnoebaaaGreatDoorZRA1
section
namespace Go.Proofs.YtninnmdpnoebaaaGreatDoor.PRa
open Go.Proofs.YtninnmdpnoebaaaGreatDoor.Sq Go.Proofs.YtninnmdpnoebaaaGreatDoor.Hand Go.RowKit Go.Proofs.YtninnmdpnoebaaaGreatDoorW.PrintWords Go.Proofs.YtninnmdpnoebaaaGreatDoorW.PrintLast Go.Proofs.YtninnmdpnoebaaaGreatDoorW.PrintMore
attribute [local go_sem] max2_int min2_int max_two min_two max_three min_three max_four min_four
set_option linter.unusedVariables false
set_option linter.unusedSimpArgs false
def g16find.l0:Nat→ByteArray→ByteArray→Int→Option (Int)
 | 0,_,_,_=>none
 | k+1,c,b,a=>if (wrap64 (a+(b.size:Int)))≤(c.size:Int) then (if 0≤a then (if a≤(wrap64 (a+(b.size:Int))) then (if (c.extract (a:Int).toNat ((wrap64 (a+(b.size:Int))):Int).toNat).toList=b.toList then (some a) else (g16find.l0 k c b (wrap64 (a+1)))) else (none)) else (none)) else (some (-1))
def g16find.f (k:Nat) (a:ByteArray) (b:ByteArray) (c:Int):Option (Int):=g16find.l0 k a b c
set_option maxHeartbeats 8000000 in
set_option maxRecDepth 100000 in
theorem g16find.calls (k:Nat) (b:ByteArray) (c:ByteArray) (g:Int) (r:Int) (w:World) (h:g16find.f k b c g=some r) :
  Calls Tryz.prog 99 #[.string b,.string c,.int .i64 g] w fun e w'=>e=.returned (.int .i64 r)∧Drawn0 w w':=by
 have H:(g16find.l0 k b c g)=some r:=h;clear h;have H':=Aside0.mk H;clear H;go_enter Tryz.func99,Tryz.ntmps99;go_wp2;go_loopg [7] k (fun kq n w'=>∃ (a:Int),n=.int .i64 a∧Aside0 (g16find.l0 kq b c a=some r)∧Aside0 (kq≤k)∧Drawn0 w w')
 case atStart=>exact ⟨(g),zE,H',⟨Nat.le_refl _⟩,zDr⟩
 case round =>
  clear H';obtain ⟨a,rfl,HA,i,⟨v,rfl⟩⟩:=hrel;cases gk with
  | zero=>exact absurd HA.out (by simp [g16find.l0])
  | succ k1 =>
   have H:=HA.out;clear HA;simp only [g16find.l0] at H;replace H:=zdd H;rcases H with ⟨j,H⟩ | ⟨j,H⟩
   ·by_cases d:0≤a
    ·rw [if_pos d] at H;have o:=eq_true d;have p:=decide_eq_true d;clear d;replace H:=zcn H;obtain ⟨x,q,s,H⟩:=H;have t:=eq_true (zD:(wrap64 (a+(c.size:Int)))≤(b.size:Int));replace H:=zbb H;rcases H with ⟨l,m,H⟩ | ⟨y,l,m,H⟩
     ·obtain rfl:=Option.some.inj H;go_wp2;go_ret;exact ⟨zE,zDr⟩
     ·have H':=Aside0.mk H;clear H;go_wp2;go_roundg k1
      case measure=>have:=i.out;omega
      case rel=>exact ⟨(wrap64 (a+1)),zE,H',⟨by have:=i.out;omega⟩,zDr⟩
    ·rw [if_neg d] at H;exact absurd H (by simp)
   ·obtain rfl:=Option.some.inj H;go_wp2;go_ret;exact ⟨zE,zDr⟩
def g16line.f (k:Nat) (d:ByteArray) (a:Int) (c:ByteArray):Option (ByteArray × Int × Bool):=(g16find.f k d (⟨#[10]⟩:ByteArray) a).bind fun b=>(if b < 0 then (some ((⟨#[]⟩:ByteArray),a,false)) else (if (wrap64 (b - a)) < (wrap64 ((c.size:Int)+1)) then (some ((⟨#[]⟩:ByteArray),a,false)) else (if 0≤a then (if a≤(wrap64 (a+(wrap64 ((c.size:Int)+1)))) then (if (wrap64 (a+(wrap64 ((c.size:Int)+1))))≤(d.size:Int) then (if c.size+1≤9223372036854775807 then (if (d.extract (a:Int).toNat ((wrap64 (a+(wrap64 ((c.size:Int)+1)))):Int).toNat).toList=(c++(⟨#[32]⟩:ByteArray)).toList then (if 0≤(wrap64 (a+(wrap64 ((c.size:Int)+1)))) then (if (wrap64 (a+(wrap64 ((c.size:Int)+1))))≤b then (if b≤(d.size:Int) then (some (d.extract ((wrap64 (a+(wrap64 ((c.size:Int)+1)))):Int).toNat (b:Int).toNat,wrap64 (b+1),true)) else (none)) else (none)) else (none)) else (some ((⟨#[]⟩:ByteArray),a,false))) else (none)) else (none)) else (none)) else (none))))
set_option maxHeartbeats 8000000 in
set_option maxRecDepth 100000 in
theorem g16line.calls (k:Nat) (g:ByteArray) (c:Int) (d:ByteArray) (z:ByteArray) (A:Int) (B:Bool) (w:World) (h:g16line.f k g c d=some (z,A,B)) :
  Calls Tryz.prog 76 #[.string g,.int .i64 c,.string d] w fun e w'=>e=.returned (.tuple #[.string z,.int .i64 A,.bool B])∧Drawn0 w w':=by
 have H:((g16find.f k g (⟨#[10]⟩:ByteArray) c).bind fun b=>(if b < 0 then (some ((⟨#[]⟩:ByteArray),c,false)) else (if (wrap64 (b - c)) < (wrap64 ((d.size:Int)+1)) then (some ((⟨#[]⟩:ByteArray),c,false)) else (if 0≤c then (if c≤(wrap64 (c+(wrap64 ((d.size:Int)+1)))) then (if (wrap64 (c+(wrap64 ((d.size:Int)+1))))≤(g.size:Int) then (if d.size+1≤9223372036854775807 then (if (g.extract (c:Int).toNat ((wrap64 (c+(wrap64 ((d.size:Int)+1)))):Int).toNat).toList=(d++(⟨#[32]⟩:ByteArray)).toList then (if 0≤(wrap64 (c+(wrap64 ((d.size:Int)+1)))) then (if (wrap64 (c+(wrap64 ((d.size:Int)+1))))≤b then (if b≤(g.size:Int) then (some (g.extract ((wrap64 (c+(wrap64 ((d.size:Int)+1)))):Int).toNat (b:Int).toNat,wrap64 (b+1),true)) else (none)) else (none)) else (none)) else (some ((⟨#[]⟩:ByteArray),c,false))) else (none)) else (none)) else (none)) else (none)))))=some (z,A,B):=h;clear h;replace H:=zbd H;obtain ⟨b,s,H⟩:=H;replace H:=zdd H;rcases H with ⟨G,H⟩ | ⟨G,H⟩
 ·simp only [Option.some.injEq,Prod.mk.injEq] at H;obtain ⟨rfl,rfl,rfl⟩:=H;go_enter Tryz.func76,Tryz.ntmps76;go_wp2_with (first | ((with_reducible refine zgc 99 ?_);refine zGL 13 Tryz.func99 #[.string g,.string (⟨#[10]⟩:ByteArray),.int .i64 c] ?_;(with_reducible refine (g16find.calls k g (⟨#[10]⟩:ByteArray) c b _ s.out).mono ?_);rintro e w' ⟨rfl,⟨nd,rfl⟩⟩;refine ⟨_,rfl,?_⟩));go_ret3;exact ⟨zE,zDr⟩
 ·by_cases r:(wrap64 (b - c)) < (wrap64 ((d.size:Int)+1))
  ·rw [if_pos r] at H;have t:=decide_eq_true r;clear r;simp only [Option.some.injEq,Prod.mk.injEq] at H;obtain ⟨rfl,rfl,rfl⟩:=H;go_enter Tryz.func76,Tryz.ntmps76;go_wp2_with (first | ((with_reducible refine zgc 99 ?_);refine zGL 13 Tryz.func99 #[.string g,.string (⟨#[10]⟩:ByteArray),.int .i64 c] ?_;(with_reducible refine (g16find.calls k g (⟨#[10]⟩:ByteArray) c b _ s.out).mono ?_);rintro e w' ⟨rfl,⟨nd,rfl⟩⟩;refine ⟨_,rfl,?_⟩));go_ret3;exact ⟨zE,zDr⟩
  ·rw [if_neg r] at H;have t:=decide_eq_false r;clear r;replace H:=zen H;obtain ⟨Y,Z,H⟩:=H;replace H:=zcn H;obtain ⟨c8,u,v,H⟩:=H;replace H:=zcn H;obtain ⟨c9,x,y,H⟩:=H;replace H:=zcn H;obtain ⟨I,N,O,H⟩:=H;(try have Q:(9223372036854775807 < d.size+1)=False:=eq_false (Nat.not_lt.2 I));have n:wrap64 ((d.size:Int)+1)=(d.size:Int)+1:=by unfold wrap64;omega
   have C:=u;have D:=v;have E:=x;have F:=y;have J:=t;rw [n] at C D E F J;replace H:=zif H;rcases H with ⟨m,H⟩ | ⟨m,H⟩
   ·have j:=beq_iff_eq.mpr m;have l:=bne_eq_false_iff_eq.mpr m;have p:=j;have q:=l;rw [n] at p q;clear m;obtain ⟨i,a⟩:=zj (α:=Int) (wrap64 (c+(wrap64 ((d.size:Int)+1))));replace H:(if 0≤(i) then (if (i)≤b then (if b≤(g.size:Int) then (some (g.extract ((i):Int).toNat (b:Int).toNat,wrap64 (b+1),true)) else (none)) else (none)) else (none))=some (z,A,B):=zJ a H;(try rw [a] at u);(try rw [a] at v);(try rw [a] at c8);(try rw [a] at x);(try rw [a] at y);(try rw [a] at c9);(try rw [a] at j);(try rw [a] at l);(try rw [a] at s);have L:(IntKind.i64.wrap (c+(wrap64 ((d.size:Int)+1))))=i:=(i64_w _).trans a;have o:wrap64 (c+((d.size:Int)+1))=i:=by rw [← n];exact a
    have M:IntKind.i64.wrap (c+((d.size:Int)+1))=i:=(i64_w _).trans o;(try rw [o] at C D E F);replace H:=zen H;obtain ⟨R,T,H⟩:=H;replace H:=zen H;obtain ⟨U,V,H⟩:=H;replace H:=zen H;obtain ⟨W,X,H⟩:=H;simp only [Option.some.injEq,Prod.mk.injEq] at H;obtain ⟨rfl,rfl,rfl⟩:=H;go_enter Tryz.func76,Tryz.ntmps76;go_wp2_with (first | ((with_reducible refine zgc 99 ?_);refine zGL 13 Tryz.func99 #[.string g,.string (⟨#[10]⟩:ByteArray),.int .i64 c] ?_;(with_reducible refine (g16find.calls k g (⟨#[10]⟩:ByteArray) c b _ s.out).mono ?_);rintro e w' ⟨rfl,⟨nd,rfl⟩⟩;refine ⟨_,rfl,?_⟩));go_ret3;exact ⟨by first | rfl | (simp;done) | (simp only [← a]<;>(first | rfl | simp)) | (simp [*];done),zDr⟩
   ·have j:=beq_eq_false_iff_ne.mpr m;have l:=bne_iff_ne.mpr m;have p:=j;have q:=l;rw [n] at p q;simp only [Option.some.injEq,Prod.mk.injEq] at H;obtain ⟨rfl,rfl,rfl⟩:=H;go_enter Tryz.func76,Tryz.ntmps76;go_wp2_with (first | ((with_reducible refine zgc 99 ?_);refine zGL 13 Tryz.func99 #[.string g,.string (⟨#[10]⟩:ByteArray),.int .i64 c] ?_;(with_reducible refine (g16find.calls k g (⟨#[10]⟩:ByteArray) c b _ s.out).mono ?_);rintro e w' ⟨rfl,⟨nd,rfl⟩⟩;refine ⟨_,rfl,?_⟩));go_ret3;exact ⟨zE,zDr⟩
def g16Value.l0:Nat→ByteArray→Int→Int→Option (Int)
 | 0,_,_,_=>none
 | k+1,b,c,a=>if a < (b.size:Int) then (if 0≤a then (g16Value.l0 k b (wrap64 ((wrap64 ((wrap64 (10*c))+(wrap64 (bt b a)))) - 48)) (wrap64 (a+1))) else (none)) else (some c)
def g16Value.f (k:Nat) (a:ByteArray):Option (Int):=g16Value.l0 k a 0 0
set_option maxHeartbeats 8000000 in
set_option maxRecDepth 100000 in
theorem g16Value.calls (k:Nat) (c:ByteArray) (r:Int) (w:World) (h:g16Value.f k c=some r) :
  Calls Tryz.prog 129 #[.string c] w fun e w'=>e=.returned (.int .i64 r)∧Drawn0 w w':=by
 have H:(g16Value.l0 k c 0 0)=some r:=h;clear h;have H':=Aside0.mk H;clear H;go_enter Tryz.func129,Tryz.ntmps129;go_wp2;go_loopg [3,4] k (fun kq m n w'=>∃ (b:Int) (a:Int),m=.int .i64 b∧n=.int .i64 a∧Aside0 (g16Value.l0 kq c b a=some r)∧Aside0 (kq≤k)∧Drawn0 w w')
 case atStart=>exact ⟨(0),(0),zE,zE,H',⟨Nat.le_refl _⟩,zDr⟩
 case round =>
  clear H';obtain ⟨b,a,rfl,rfl,HA,g,⟨s,rfl⟩⟩:=hrel;cases gk with
  | zero=>exact absurd HA.out (by simp [g16Value.l0])
  | succ k1 =>
   have H:=HA.out;clear HA;simp only [g16Value.l0] at H;replace H:=zdd H;rcases H with ⟨i,H⟩ | ⟨i,H⟩
   ·by_cases d:0≤a
    ·rw [if_pos d] at H;have o:=decide_eq_true d;clear d;have H':=Aside0.mk H;clear H;have j:0≤(a:Int):=zD;have l:a < (c.size:Int):=zD;have p:=bt_at c a;replace j:=eq_true j;replace l:=eq_true l;go_wp2;go_roundg k1
     case measure=>have:=g.out;omega
     case rel=>exact ⟨(wrap64 ((wrap64 ((wrap64 (10*b))+(wrap64 (bt c a)))) - 48)),(wrap64 (a+1)),zE,zE,H',⟨by have:=g.out;omega⟩,zDr⟩
    ·rw [if_neg d] at H;exact absurd H (by simp)
   ·obtain rfl:=Option.some.inj H;go_wp2;go_ret;exact ⟨zE,zDr⟩
mutual
def g16zone.j0:Nat→ByteArray→Bool→Option (Int × Bool)
 | 0,_,_=>none
 | k+1,a,e=>if e=true then (some (0,false)) else (g16zone.l0 k a 1)
def g16zone.l0:Nat→ByteArray→Int→Option (Int × Bool)
 | 0,_,_=>none
 | k+1,a,c=>if c < 5 then (if 0≤c then (if c < (a.size:Int) then (if (bt a c) < 48 then (some (0,false)) else (if (bt a c) > 57 then (some (0,false)) else (g16zone.l0 k a (wrap64 (c+1))))) else (none)) else (none)) else (if 3≤(a.size:Int) then ((g16Value.f k (a.extract 3 a.size)).bind fun b=>(if b≥60 then (some (0,false)) else (if 1≤3 then ((g16Value.f k (a.extract 1 3)).bind fun d=>(if 0 < (a.size:Int) then (if (bt a 0)=45 then (some (wrap64 (-(wrap64 ((wrap64 (60*d))+b))),true)) else (some (wrap64 ((wrap64 (60*d))+b),true))) else (none))) else (none)))) else (none))
end
def g16zone.f (k:Nat) (a:ByteArray):Option (Int × Bool):=if (a.size:Int)=5 then (if 0 < (a.size:Int) then (if (bt a 0)=43 then (g16zone.j0 k a (a.toList == ([45,48,48,48,48]:List UInt8))) else (if (bt a 0)=45 then (g16zone.j0 k a (a.toList == ([45,48,48,48,48]:List UInt8))) else (g16zone.j0 k a true))) else (none)) else (g16zone.j0 k a true)
set_option maxHeartbeats 8000000 in
set_option maxRecDepth 100000 in
theorem g16zone.calls (k:Nat) (a:ByteArray) (u:Int) (v:Bool) (w:World) (h:g16zone.f k a=some (u,v)) :
  Calls Tryz.prog 127 #[.string a] w fun e w'=>e=.returned (.tuple #[.int .i64 u,.bool v])∧Drawn0 w w':=by
 have H:(if (a.size:Int)=5 then (if 0 < (a.size:Int) then (if (bt a 0)=43 then (g16zone.j0 k a (a.toList == ([45,48,48,48,48]:List UInt8))) else (if (bt a 0)=45 then (g16zone.j0 k a (a.toList == ([45,48,48,48,48]:List UInt8))) else (g16zone.j0 k a true))) else (none)) else (g16zone.j0 k a true))=some (u,v):=h;clear h;have G:=Aside0.mk H;clear H;go_enter Tryz.func127,Tryz.ntmps127;go_upto_region 1 with (fail);go_cut [23] (fun af wc=>∃ (kq:Nat) (j:Bool),af=.bool j∧Aside0 (g16zone.j0 kq a j=some (u,v))∧Aside0 (kq≤k)∧Drawn0 w wc)
 case first =>
  have H:=G.out;clear G;replace H:=zbb H;rcases H with ⟨c,x,H⟩ | ⟨c3,c,x,H⟩
  ·(first | rw [c] | (simp only [i64_w,i32_w];rw [c]) | skip);replace H:=zgn H;obtain ⟨c4,I,H⟩:=H;have J:decide (0 < a.size)=true:=decide_eq_true (by omega);clear c4;replace H:=zbb H;rcases H with ⟨y,z,H⟩ | ⟨c6,y,z,H⟩
   ·have H':=Aside0.mk H;clear H;have m:0≤(0:Int):=(by omega);have i:0 < a.size:=(by have:(0:Int) < (a.size:Int):=zD;omega);have E:∀ h:0 < a.size,((a[0]'h).toNat:Int)=bt a 0:=bt_at a 0;clear m;have qi5:(0 < (a.size:Int))=True:=eq_true (zD);replace i:=eq_true i;go_wp2;go_meet
    case rel=>exact ⟨_,((a.toList == ([45,48,48,48,48]:List UInt8))),zE,H',⟨by first | omega | exact Nat.le_refl _⟩,zDr⟩
   ·by_cases n:(bt a 0)=45
    ·rw [if_pos n] at H;have A:=beq_iff_eq.mpr n;have B:=bne_eq_false_iff_eq.mpr n;clear n;have H':=Aside0.mk H;clear H;have m:0≤(0:Int):=(by omega);have i:0 < a.size:=(by have:(0:Int) < (a.size:Int):=zD;omega);have E:∀ h:0 < a.size,((a[0]'h).toNat:Int)=bt a 0:=bt_at a 0;clear m;have qi5:(0 < (a.size:Int))=True:=eq_true (zD);replace i:=eq_true i;have C:0≤(0:Int):=(by omega);have o:0 < a.size:=(by have:(0:Int) < (a.size:Int):=zD;omega);have L:∀ h:0 < a.size,((a[0]'h).toNat:Int)=bt a 0:=bt_at a 0;clear C;have qi7:(0 < (a.size:Int))=True:=eq_true (zD);replace o:=eq_true o;go_wp2;go_meet
     case rel=>exact ⟨_,((a.toList == ([45,48,48,48,48]:List UInt8))),zE,H',⟨by first | omega | exact Nat.le_refl _⟩,zDr⟩
    ·rw [if_neg n] at H;have A:=beq_eq_false_iff_ne.mpr n;have B:=bne_iff_ne.mpr n;have H':=Aside0.mk H;clear H;have m:0≤(0:Int):=(by omega);have i:0 < a.size:=(by have:(0:Int) < (a.size:Int):=zD;omega);have E:∀ h:0 < a.size,((a[0]'h).toNat:Int)=bt a 0:=bt_at a 0;clear m;have qi5:(0 < (a.size:Int))=True:=eq_true (zD);replace i:=eq_true i;have C:0≤(0:Int):=(by omega);have o:0 < a.size:=(by have:(0:Int) < (a.size:Int):=zD;omega);have L:∀ h:0 < a.size,((a[0]'h).toNat:Int)=bt a 0:=bt_at a 0;clear C;have qi7:(0 < (a.size:Int))=True:=eq_true (zD);replace o:=eq_true o;go_wp2;go_meet
     case rel=>exact ⟨_,(true),zE,H',⟨by first | omega | exact Nat.le_refl _⟩,zDr⟩
  ·(first | rw [c] | (simp only [i64_w,i32_w];rw [c]) | skip);have H':=Aside0.mk H;clear H;go_wp2;go_meet
   case rel=>exact ⟨_,(true),zE,H',⟨by first | omega | exact Nat.le_refl _⟩,zDr⟩
 case rest =>
  clear G;obtain ⟨kq,j,rfl,HA,Z,⟨mc1,rfl⟩⟩:=hcut;cases kq with
  | zero=>exact absurd HA.out (by simp [g16zone.j0])
  | succ kj1 =>
   have H:=HA.out;clear HA;simp only [g16zone.j0] at H;by_cases M:j=true
   ·subst M;have H1:(some (0,false))=some (u,v):=by rw [if_pos rfl] at H;exact H
    clear H;have H:=H1;clear H1;simp only [Option.some.injEq,Prod.mk.injEq] at H;obtain ⟨rfl,rfl⟩:=H;go_wp2;go_ret2;exact ⟨zE,zDr⟩
   ·replace M:=Bool.eq_false_iff.mpr M;subst M;have H1:(g16zone.l0 kj1 a 1)=some (u,v):=by rw [if_neg (show ¬ (false=true) by decide)] at H;exact H
    clear H;have H:=H1;clear H1;have H':=Aside0.mk H;clear H;go_wp2;go_loopg [4] kj1 (fun kq v4 w'=>∃ (b:Int),v4=.int .i64 b∧Aside0 (g16zone.l0 kq a b=some (u,v))∧Aside0 (kq≤kj1)∧Drawn0 w w')
    case atStart=>exact ⟨(1),zE,H',⟨Nat.le_refl _⟩,zDr⟩
    case round =>
     clear H';obtain ⟨b,rfl,HA,aa,⟨m2,rfl⟩⟩:=hrel;cases gk with
     | zero=>exact absurd HA.out (by simp [g16zone.l0])
     | succ k2 =>
      have H:=HA.out;clear HA;simp only [g16zone.l0] at H;replace H:=zdd H;rcases H with ⟨T,H⟩ | ⟨T,H⟩
      ·by_cases F:0≤b
       ·rw [if_pos F] at H;have ak:=decide_eq_true F;clear F;replace H:=zdn H;obtain ⟨al,H⟩:=H;replace H:=zdd H;rcases H with ⟨U,H⟩ | ⟨U,H⟩
        ·simp only [Option.some.injEq,Prod.mk.injEq] at H;obtain ⟨rfl,rfl⟩:=H;have d:0≤(b:Int):=zD;have g:b < (a.size:Int):=zD;have N:=bt_at a b;replace d:=eq_true d;replace g:=eq_true g;go_wp2;go_ret2;exact ⟨zE,zDr⟩
        ·by_cases l:(bt a b) > 57
         ·rw [if_pos l] at H;have V:=decide_eq_true l;clear l;simp only [Option.some.injEq,Prod.mk.injEq] at H;obtain ⟨rfl,rfl⟩:=H;have d:0≤(b:Int):=zD;have g:b < (a.size:Int):=zD;have N:=bt_at a b;replace d:=eq_true d;replace g:=eq_true g;have p:0≤(b:Int):=zD;have q:b < (a.size:Int):=zD;have ad:=bt_at a b;replace p:=eq_true p;replace q:=eq_true q;go_wp2;go_ret2;exact ⟨zE,zDr⟩
         ·rw [if_neg l] at H;have V:=decide_eq_false l;clear l;have H':=Aside0.mk H;clear H;have d:0≤(b:Int):=zD;have g:b < (a.size:Int):=zD;have N:=bt_at a b;replace d:=eq_true d;replace g:=eq_true g;have p:0≤(b:Int):=zD;have q:b < (a.size:Int):=zD;have ad:=bt_at a b;replace p:=eq_true p;replace q:=eq_true q;go_wp2;go_roundg k2
          case measure=>have:=Z.out;have:=aa.out;omega
          case rel=>exact ⟨(wrap64 (b+1)),zE,H',⟨by have:=Z.out;have:=aa.out;omega⟩,zDr⟩
       ·rw [if_neg F] at H;exact absurd H (by simp)
      ·by_cases r:3≤(a.size:Int)
       ·rw [if_pos r] at H;have am:=eq_true r;have an:=decide_eq_true r;clear r;replace H:=zbd H;obtain ⟨D,O,H⟩:=H;replace H:=zdd H;rcases H with ⟨W,H⟩ | ⟨W,H⟩
        ·simp only [Option.some.injEq,Prod.mk.injEq] at H;obtain ⟨rfl,rfl⟩:=H;go_wp2_with (first | ((with_reducible refine zgc 129 ?_);refine zGL 40 Tryz.func129 #[.string (a.extract 3 a.size)] ?_;(with_reducible refine (g16Value.calls k2 (a.extract 3 a.size) D _ O.out).mono ?_);rintro e w' ⟨rfl,⟨nd,rfl⟩⟩;refine ⟨_,rfl,?_⟩));go_ret2;exact ⟨zE,zDr⟩
        ·by_cases s:1≤3
         ·rw [if_pos s] at H;have ao:=eq_true s;have ap:=decide_eq_true s;clear s;have aq:=eq_true (zD:3≤(a.size:Int));replace H:=zbd H;obtain ⟨Q,ab,H⟩:=H;replace H:=zgn H;obtain ⟨aj,ar,H⟩:=H;have au:decide (0 < a.size)=true:=decide_eq_true (by omega);clear aj;replace H:=zbb H;rcases H with ⟨X,Y,H⟩ | ⟨ax,X,Y,H⟩
          ·simp only [Option.some.injEq,Prod.mk.injEq] at H;obtain ⟨rfl,rfl⟩:=H;go_wp2_with (first | ((with_reducible refine zgc 129 ?_);refine zGL 40 Tryz.func129 #[.string (a.extract 3 a.size)] ?_;(with_reducible refine (g16Value.calls k2 (a.extract 3 a.size) D _ O.out).mono ?_);rintro e w' ⟨rfl,⟨nd,rfl⟩⟩;refine ⟨_,rfl,?_⟩) | ((with_reducible refine zgc 129 ?_);refine zGL 45 Tryz.func129 #[.string (a.extract 1 3)] ?_;(with_reducible refine (g16Value.calls k2 (a.extract 1 3) Q _ ab.out).mono ?_);rintro e w' ⟨rfl,⟨nd,rfl⟩⟩;refine ⟨_,rfl,?_⟩;have R:0≤(0:Int):=(by omega);have t:0 < a.size:=(by have:(0:Int) < (a.size:Int):=zD;omega);have ae:∀ h:0 < a.size,((a[0]'h).toNat:Int)=bt a 0:=bt_at a 0;clear R;have qi24:(0 < (a.size:Int))=True:=eq_true (zD);replace t:=eq_true t));go_ret2;exact ⟨zE,zDr⟩
          ·simp only [Option.some.injEq,Prod.mk.injEq] at H;obtain ⟨rfl,rfl⟩:=H;go_wp2_with (first | ((with_reducible refine zgc 129 ?_);refine zGL 40 Tryz.func129 #[.string (a.extract 3 a.size)] ?_;(with_reducible refine (g16Value.calls k2 (a.extract 3 a.size) D _ O.out).mono ?_);rintro e w' ⟨rfl,⟨nd,rfl⟩⟩;refine ⟨_,rfl,?_⟩) | ((with_reducible refine zgc 129 ?_);refine zGL 45 Tryz.func129 #[.string (a.extract 1 3)] ?_;(with_reducible refine (g16Value.calls k2 (a.extract 1 3) Q _ ab.out).mono ?_);rintro e w' ⟨rfl,⟨nd,rfl⟩⟩;refine ⟨_,rfl,?_⟩;have R:0≤(0:Int):=(by omega);have t:0 < a.size:=(by have:(0:Int) < (a.size:Int):=zD;omega);have ae:∀ h:0 < a.size,((a[0]'h).toNat:Int)=bt a 0:=bt_at a 0;clear R;have qi24:(0 < (a.size:Int))=True:=eq_true (zD);replace t:=eq_true t));go_ret2;exact ⟨zE,zDr⟩
         ·rw [if_neg s] at H;exact absurd H (by simp)
       ·rw [if_neg r] at H;exact absurd H (by simp)
end Go.Proofs.YtninnmdpnoebaaaGreatDoor.PRa
end
section
namespace Go.Proofs.YtninnmdpnoebaaaGreatDoor.Hand
open Go.RowKit Go.Proofs.YtninnmdpnoebaaaGreatDoorW.PrintWords Go.Proofs.YtninnmdpnoebaaaGreatDoorW.PrintLast Go.Proofs.YtninnmdpnoebaaaGreatDoorW.PrintMore
open Go.Proofs.YtninnmdpnoebaaaGreatDoor.PRa
set_option linter.unusedVariables false
set_option linter.unusedSimpArgs false
abbrev ls (s:ByteArray):List UInt8:=s.data.toList
theorem ls_len (s:ByteArray):(ls s).length=s.size:=by simp [ls]
theorem ls_extract (s:ByteArray) (i j:Nat):ls (s.extract i j)=((ls s).drop i).take (j - i):=by
 simp only [ls,ByteArray.data_extract,Array.toList_extract,List.extract]
theorem ls_inj {a b:ByteArray} (h:ls a=ls b):a=b:=by
 cases a;cases b;have:=Array.ext' h;simp only at this;rw [this]
theorem ls_mk (l:List UInt8):ls ⟨l.toArray⟩=l:=by simp [ls]
theorem mk_ls (s:ByteArray):(⟨(ls s).toArray⟩:ByteArray)=s:=ls_inj (ls_mk _)
theorem occ_extract (s t:ByteArray) (i:Nat) (h:i+t.size≤s.size):((s.extract i (i+t.size)).toList=t.toList)↔Lib.occAt (ls s) (ls t) i=true:=by
 rw [tl_iff,Lib.occAt_iff_take (ls s) (ls t) i (by rw [ls_len,ls_len];exact h)];have e:ls (s.extract i (i+t.size))=((ls s).drop i).take (ls t).length:=by rw [ls_extract,ls_len];congr 1;omega
 rw [← e];constructor
 ·intro h;rw [h];simp
 ·intro h;exact ls_inj (beq_iff_eq.1 h)
theorem find_l0 (s t:ByteArray) (hs:s.size≤4294967280) (ht:1≤t.size) (ht2:t.size≤100):∀ (k:Nat) (p:Nat) (r:Int),g16find.l0 k s t (p:Int)=some r→p≤s.size+1 →
  r=-1∨∃ i:Nat,r=(i:Int)∧p≤i∧i+t.size≤s.size∧Lib.occAt (ls s) (ls t) i=true∧∀ j,p≤j→j < i→Lib.occAt (ls s) (ls t) j=false:=by
 intro k
 induction k with
 | zero=>intro p r h _;simp [g16find.l0] at h
 | succ k ih =>
  intro p r h hp;rw [g16find.l0,wrap64_id (by omega) (by omega)] at h;by_cases c:(p:Int)+(t.size:Int)≤(s.size:Int)
  ·rw [if_pos c,if_pos (by omega),if_pos (by omega),show (((p:Int)+(t.size:Int)).toNat)=p+t.size by omega,Int.toNat_natCast] at h;by_cases c2:(s.extract p (p+t.size)).toList=t.toList
   ·rw [if_pos c2] at h;obtain rfl:=Option.some.inj h;exact .inr ⟨p,rfl,Nat.le_refl _,by omega,(occ_extract s t p (by omega)).1 c2,fun j h1 h2=>by omega⟩
   ·rw [if_neg c2,wrap64_id (by omega) (by omega),show ((p:Int)+1)=((p+1:Nat):Int) by omega] at h;rcases ih (p+1) r h (by omega) with h | ⟨i,h1,h2,h3,h4,h5⟩
    ·exact .inl h
    ·refine .inr ⟨i,h1,by omega,h3,h4,fun j hj1 hj2=>?_⟩;by_cases cj:j=p
     ·subst cj;exact Bool.eq_false_iff.2 (fun h=>c2 ((occ_extract s t j (by omega)).2 h))
     ·exact h5 j (by omega) hj2
  ·rw [if_neg c] at h;exact .inl (Option.some.inj h).symm
theorem occ_drop (l t:List UInt8) (p i:Nat):Lib.occAt (l.drop p) t i=Lib.occAt l t (p+i):=by
 unfold Lib.occAt;rw [List.drop_drop]
theorem find_cut (s t:ByteArray) (hs:s.size≤4294967280) (ht:1≤t.size) (ht2:t.size≤100) (k p:Nat) (r:Int) (h:g16find.f k s t (p:Int)=some r) (hp:p≤s.size+1) (hr:0≤r) :
  ∃ i:Nat,r=(i:Int)∧p≤i∧i+t.size≤s.size∧Lib.cut ((ls s).drop p) (ls t)=(((ls s).drop p).take (i - p),(ls s).drop (i+t.size),true)∧Lib.occAt (ls s) (ls t) i=true∧∀ j,p≤j→j < i→Lib.occAt (ls s) (ls t) j=false:=by
 rcases find_l0 s t hs ht ht2 k p r h hp with h | ⟨i,h1,h2,h3,h4,h5⟩
 ·omega
 ·have hidx:Lib.index ((ls s).drop p) (ls t)=((i - p:Nat):Int):=by
   refine Lib.index_first (by rw [List.length_drop,ls_len];omega) (by rw [occ_drop,show p+(i - p)=i by omega];exact h4) (fun j hj=>?_);rw [occ_drop];exact h5 (p+j) (by omega) (by omega)
  refine ⟨i,h1,h2,h3,?_,h4,h5⟩;unfold Lib.cut;rw [hidx,if_pos (by omega),Int.toNat_natCast,List.drop_drop,ls_len];rw [show p+(i - p+t.size)=i+t.size by omega]
def sfx (s:ByteArray) (p:Nat):ByteArray:=⟨((ls s).drop p).toArray⟩
theorem ls_sfx (s:ByteArray) (p:Nat):ls (sfx s p)=(ls s).drop p:=ls_mk _
theorem sfx_zero (s:ByteArray):sfx s 0=s:=by unfold sfx;exact mk_ls s
theorem sfx_size (s:ByteArray) (p:Nat):(sfx s p).size=s.size - p:=by rw [← ls_len,ls_sfx,List.length_drop,ls_len]
theorem sfx_extract (s:ByteArray) (p:Nat):s.extract p s.size=sfx s p:=by
 apply ls_inj;rw [ls_extract,ls_sfx];exact List.take_of_length_le (by rw [List.length_drop,ls_len];omega)
theorem line_tie (s w1:ByteArray) (hs:s.size≤4294967280) (hw:1≤w1.size) (hw2:w1.size≤50) (k p:Nat) (hp:p≤s.size) (v:ByteArray) (tq:Int) (h:g16line.f k s (p:Int) w1=some (v,tq,true)) :
  ∃ q:Nat,tq=(q:Int)∧p < q∧q≤s.size∧lineQ (sfx s p) 0 (w1++⟨#[32]⟩)=(v,sfx s q,0)∧Lib.hasPrefix ((ls s).drop p) (ls (w1++⟨#[32]⟩))=true:=by
 unfold g16line.f at h;obtain ⟨r,hr,h⟩:=Option.bind_eq_some_iff.1 h;by_cases c0:r < 0
 ·rw [if_pos c0] at h;simp at h
 rw [if_neg c0] at h;obtain ⟨i,rfl,h1,h2,h3,h4,h5⟩:=find_cut s ⟨#[10]⟩ hs (by decide) (by decide) k p r hr (by omega) (by omega);have z10:(⟨#[10]⟩:ByteArray).size=1:=rfl;rw [z10] at h2 h3;have e1:wrap64 ((w1.size:Int)+1)=(w1.size:Int)+1:=wrap64_id (by omega) (by omega);have e2:wrap64 ((i:Int) - (p:Int))=(i:Int) - (p:Int):=wrap64_id (by omega) (by omega);have e3:wrap64 ((p:Int)+((w1.size:Int)+1))=((p+(w1.size+1):Nat):Int):=by rw [wrap64_id (by omega) (by omega)];omega
 rw [e1,e2,e3] at h;by_cases c1:(i:Int) - (p:Int) < (w1.size:Int)+1
 ·rw [if_pos c1] at h;simp at h
 rw [if_neg c1,if_pos (by omega),if_pos (by omega),if_pos (by omega),if_pos (by omega),Int.toNat_natCast,Int.toNat_natCast] at h;have hsz:(w1++(⟨#[32]⟩:ByteArray)).size=w1.size+1:=ByteArray.size_append;by_cases c2:(s.extract p (p+(w1.size+1))).toList=(w1++(⟨#[32]⟩:ByteArray)).toList
 ·rw [if_pos c2,if_pos (by omega),if_pos (by omega),if_pos (by omega),Int.toNat_natCast,wrap64_id (by omega) (by omega)] at h;simp only [Option.some.injEq,Prod.mk.injEq,and_true] at h;obtain ⟨rfl,rfl⟩:=h;have hpre:((ls s).drop p).take (w1.size+1)=ls (w1++(⟨#[32]⟩:ByteArray)):=by
   rw [← (tl_iff.1 c2),ls_extract];congr 1;omega
  have hpl:(ls (w1++(⟨#[32]⟩:ByteArray))).length=w1.size+1:=by rw [ls_len,hsz]
  have hp1:Lib.hasPrefix (((ls s).drop p).take (i - p)) (ls (w1++(⟨#[32]⟩:ByteArray)))=true:=by
   unfold Lib.hasPrefix;rw [List.isPrefixOf_iff_prefix,← hpre];exact List.take_prefix_take_left (by omega)
  refine ⟨i+1,by omega,by omega,by omega,?_,?_⟩
  ·unfold lineQ;have hcut:Lib.cut (sfx s p).data.toList [10]=(((ls s).drop p).take (i - p),(ls s).drop (i+1),true):=by
    rw [show (sfx s p).data.toList=(ls s).drop p from ls_sfx s p];exact h3
   rw [hcut];simp only [if_true];rw [if_pos hp1];refine Prod.ext ?_ rfl;apply ls_inj;show ls ⟨(Lib.trimPrefix (((ls s).drop p).take (i - p)) (ls (w1++(⟨#[32]⟩:ByteArray)))).toArray⟩=_;rw [ls_mk];unfold Lib.trimPrefix;rw [if_pos hp1,hpl,ls_extract,List.drop_take,List.drop_drop];congr 1;omega
  ·unfold Lib.hasPrefix;rw [List.isPrefixOf_iff_prefix,← hpre];exact List.take_prefix _ _
 ·rw [if_neg c2] at h;simp at h
end Go.Proofs.YtninnmdpnoebaaaGreatDoor.Hand
end
section
namespace Go.Proofs.YtninnmdpnoebaaaGreatDoor.PRa
open Go.Proofs.YtninnmdpnoebaaaGreatDoor.Sq Go.Proofs.YtninnmdpnoebaaaGreatDoor.Hand Go.RowKit Go.Proofs.YtninnmdpnoebaaaGreatDoorW.PrintWords Go.Proofs.YtninnmdpnoebaaaGreatDoorW.PrintLast Go.Proofs.YtninnmdpnoebaaaGreatDoorW.PrintMore
attribute [local go_sem] max2_int min2_int max_two min_two max_three min_three max_four min_four
set_option linter.unusedVariables false
set_option linter.unusedSimpArgs false
def g02Hex.l0:Nat→ByteArray→ByteArray→List Int→Int→Option (ByteArray)
 | 0,_,_,_,_=>none
 | k+1,b,c,e,a=>if a < (b.size:Int) then (if 0≤a then (if 0≤((Int.tdiv (bt b a) 16) % 256) then (if ((Int.tdiv (bt b a) 16) % 256) < (c.size:Int) then (if 0≤(Int.tmod (bt b a) 16) then (if (Int.tmod (bt b a) 16) < (c.size:Int) then ((some (([bt c ((Int.tdiv (bt b a) 16) % 256),bt c (Int.tmod (bt b a) 16)]:List Int):List Int)).bind fun d=>(if e.length+d.length < 140737488355328 then (g02Hex.l0 k b c (e++d) (wrap64 (a+1))) else (none))) else (none)) else (none)) else (none)) else (none)) else (none)) else (some (strOfNums e))
def g02Hex.f (k:Nat) (a:ByteArray):Option (ByteArray):=g02Hex.l0 k a (⟨#[48,49,50,51,52,53,54,55,56,57,97,98,99,100,101,102]⟩:ByteArray) (([]:List Int)) 0
def g02Hex.T6:Bool × List (List Nat × List Nat):=(true,[([],[]),([],[]),([],[]),([],[]),([2,3],[2,3]),([4],[4]),([1,5],[1,5]),([],[]),([],[]),([],[]),([8,9],[8,9]),([10],[10]),([7,11],[7,11]),([6,12],[6,12]),([0,13],[0,13]),([14,14,0,1,2,3,4,5,6,7,8,9,10,11,12,13,14],[0,14])])
def g02Hex.B6:List Nat:=[0,0,0,0,12,28,62,0,0,0,768,1792,3968,8190,16383,32767]
theorem g02Hex.tab6:rtab .any (opsOf Tryz.f80 6)=g02Hex.T6:=by kernel_rfl
theorem g02Hex.bits6:waitsOk g02Hex.T6.2 g02Hex.B6=true:=by kernel_rfl
set_option maxHeartbeats 8000000 in
set_option maxRecDepth 100000 in
theorem g02Hex.calls (k:Nat) (i:ByteArray) (r:ByteArray) (w:World) (h:g02Hex.f k i=some r) :
  Calls Tryz.prog 80 #[.string i] w fun e w'=>e=.returned (.string r)∧Below w.heap.size w w':=by
 have HB:=Aside0.mk (Below.refl w.heap.size w);have H:(g02Hex.l0 k i (⟨#[48,49,50,51,52,53,54,55,56,57,97,98,99,100,101,102]⟩:ByteArray) (([]:List Int)) 0)=some r:=h;clear h;obtain ⟨v,o⟩:=zy (α:=List Int) (([]:List Int));replace H:(g02Hex.l0 k i (⟨#[48,49,50,51,52,53,54,55,56,57,97,98,99,100,101,102]⟩:ByteArray) v 0)=some r:=zY o H;have t:=Aside0.mk o;clear o;have H':=Aside0.mk H;clear H;go_enter Tryz.func80,Tryz.ntmps80;go_wp2_with (first | ((with_reducible refine zgd 6 ?_);refine Kd.R_lit (Kd.int .u8) _ 5 ?hg (N:=6) ?hd (xs:=([]:List Int)) (inner:=[]) (ok:=fun _=>True) (okp:=fun _=>True) ?hr ?hp (fun _ hk=>hk) trivial (Below.refl _ _) (Nat.le_refl _) (by simp) ?_;(case hd=>rfl);(case hg=>rfl);(case hr=>first | (go_simp;done) | (go_simp;rfl));(case hp=>exact (Reps.none _ _));intro ab w2 s hb hg_ hnew_;clear hg_ hnew_;(first | rw [← t.out] at s | (simp only [Int.reduceToNat] at s;rw [← t.out] at s));have A:=Aside0.mk (Kd.R_lower s (below_size zB));replace HB:=zbs HB hb;clear hb s));go_loopg [4,5] k (fun kq v4 v5 w'=>∃ (b:List Int) (a:Int),v5=.int .i64 a∧Aside0 (g02Hex.l0 kq i (⟨#[48,49,50,51,52,53,54,55,56,57,97,98,99,100,101,102]⟩:ByteArray) b a=some r)∧Aside0 (kq≤k)∧Aside0 (Kd.R (Kd.int .u8) 5 w' w.heap.size (fun _=>True) v4 b)∧Aside0 (Below w.heap.size w w'))
 case atStart=>exact ⟨(v),(0),zE,H',⟨Nat.le_refl _⟩,⟨(zR A)⟩,⟨zB⟩⟩
 case round =>
  clear H';obtain ⟨b,a,rfl,HA,G,j,HB⟩:=hrel;cases gk with
  | zero=>exact absurd HA.out (by simp [g02Hex.l0])
  | succ k1 =>
   have H:=HA.out;clear HA;simp only [g02Hex.l0] at H;replace H:=zdd H;rcases H with ⟨U,H⟩ | ⟨U,H⟩
   ·by_cases B:0≤a
    ·rw [if_pos B] at H;have ae:=decide_eq_true B;clear B;obtain ⟨g,x⟩:=zj (α:=Int) ((Int.tdiv (bt i a) 16) % 256);have hwj7:IntKind.u8.wrap (Int.tdiv (bt i a) 16)=g:=by rw [← x];simp [IntKind.wrap,IntKind.bits,IntKind.signed]
     replace H:(if 0≤(g) then (if (g) < ((⟨#[48,49,50,51,52,53,54,55,56,57,97,98,99,100,101,102]⟩:ByteArray).size:Int) then (if 0≤(Int.tmod (bt i a) 16) then (if (Int.tmod (bt i a) 16) < ((⟨#[48,49,50,51,52,53,54,55,56,57,97,98,99,100,101,102]⟩:ByteArray).size:Int) then ((some (([bt (⟨#[48,49,50,51,52,53,54,55,56,57,97,98,99,100,101,102]⟩:ByteArray) (g),bt (⟨#[48,49,50,51,52,53,54,55,56,57,97,98,99,100,101,102]⟩:ByteArray) (Int.tmod (bt i a) 16)]:List Int):List Int)).bind fun c=>(if b.length+c.length < 140737488355328 then (g02Hex.l0 k1 i (⟨#[48,49,50,51,52,53,54,55,56,57,97,98,99,100,101,102]⟩:ByteArray) (b++c) (wrap64 (a+1))) else (none))) else (none)) else (none)) else (none)) else (none))=some r:=zJ x H;replace H:=zdn H;obtain ⟨af,H⟩:=H;replace H:=zdn H;obtain ⟨ag,H⟩:=H;obtain ⟨d,C⟩:=zj (α:=Int) (Int.tmod (bt i a) 16);replace H:(if 0≤(d) then (if (d) < ((⟨#[48,49,50,51,52,53,54,55,56,57,97,98,99,100,101,102]⟩:ByteArray).size:Int) then ((some (([bt (⟨#[48,49,50,51,52,53,54,55,56,57,97,98,99,100,101,102]⟩:ByteArray) (g),bt (⟨#[48,49,50,51,52,53,54,55,56,57,97,98,99,100,101,102]⟩:ByteArray) (d)]:List Int):List Int)).bind fun c=>(if b.length+c.length < 140737488355328 then (g02Hex.l0 k1 i (⟨#[48,49,50,51,52,53,54,55,56,57,97,98,99,100,101,102]⟩:ByteArray) (b++c) (wrap64 (a+1))) else (none))) else (none)) else (none))=some r:=zJ C H;replace H:=zdn H;obtain ⟨Z,H⟩:=H;replace H:=zdn H;obtain ⟨aa,H⟩:=H;obtain ⟨c,p⟩:=zy (α:=List Int) (([bt (⟨#[48,49,50,51,52,53,54,55,56,57,97,98,99,100,101,102]⟩:ByteArray) (g),bt (⟨#[48,49,50,51,52,53,54,55,56,57,97,98,99,100,101,102]⟩:ByteArray) (d)]:List Int));replace H:(if b.length+c.length < 140737488355328 then (g02Hex.l0 k1 i (⟨#[48,49,50,51,52,53,54,55,56,57,97,98,99,100,101,102]⟩:ByteArray) (b++c) (wrap64 (a+1))) else (none))=some r:=zY p H;have u:=Aside0.mk p;clear p;replace H:=zan H;obtain ⟨D,H⟩:=H;obtain ⟨y,q⟩:=zy (α:=List Int) (b++c);replace H:(g02Hex.l0 k1 i (⟨#[48,49,50,51,52,53,54,55,56,57,97,98,99,100,101,102]⟩:ByteArray) y (wrap64 (a+1)))=some r:=zY q H;have E:=Aside0.mk q;clear q;have H':=Aside0.mk H;clear H;(try go_wp2);replace j:=Aside0.mk (Kd.R_drew j.out);replace HB:=Aside0.mk (below_drew1 HB.out);have X:0≤(a:Int):=zD;have Y:a < (i.size:Int):=zD;have am:=bt_at i a;replace X:=eq_true X;replace Y:=eq_true Y;have I:0≤((g):Int):=zD;have J:(g) < (16:Int):=zD;have ah:=bt_at (⟨#[48,49,50,51,52,53,54,55,56,57,97,98,99,100,101,102]⟩:ByteArray) (g);replace I:=eq_true I;replace J:=eq_true J;have L:0≤(a:Int):=zD;have O:a < (i.size:Int):=zD;have ai:=bt_at i a;replace L:=eq_true L;replace O:=eq_true O;have Q:0≤((d):Int):=zD;have T:(d) < (16:Int):=zD;have aj:=bt_at (⟨#[48,49,50,51,52,53,54,55,56,57,97,98,99,100,101,102]⟩:ByteArray) (d);replace Q:=eq_true Q;replace T:=eq_true T;refine start_ (n:=16) (S:=fun w'=>True) (ds:=[]) (bm 16 0) (by kernel_rfl) rfl rfl trivial (fun hHeld=>?_);refine with_tabW g02Hex.tab6 g02Hex.bits6 (fun HT_ HW_=>?_);generalize wr.drew=an at j HB hHeld ⊢;refine zPu 0 13 1 ?_;refine zPu 1 14 3 ?_;refine zPu 2 15 7 ?_;refine zPu 3 16 15 ?_;refine zPu 7 20 143 ?_;refine zPu 8 21 399 ?_;refine zPu 9 22 911 ?_;refine zTk 4 17 927 ?_;refine zPu 5 18 959 ?_;refine zTk 6 19 1023 ?_;refine zTk 10 23 2047 ?_;refine zPu 11 24 4095 ?_;refine zTk 12 25 8191 ?_;refine zOn 13 26 16383 fun K hK=>?_;refine Kd.R_lit_step (Kd.int .u8) _ 5 ?hg (N:=26) ?hd (xs:=([bt (⟨#[48,49,50,51,52,53,54,55,56,57,97,98,99,100,101,102]⟩:ByteArray) (g),bt (⟨#[48,49,50,51,52,53,54,55,56,57,97,98,99,100,101,102]⟩:ByteArray) (d)]:List Int)) (inner:=[.int .u8 (bt (⟨#[48,49,50,51,52,53,54,55,56,57,97,98,99,100,101,102]⟩:ByteArray) (g)),.int .u8 (bt (⟨#[48,49,50,51,52,53,54,55,56,57,97,98,99,100,101,102]⟩:ByteArray) (d))]) (ok:=fun _=>True) (okp:=fun _=>True) ?hr ?hp (fun _ hk=>hk) trivial (Below.refl _ _) (Nat.le_refl _) (by simp) ?_;(case hd=>rfl);(case hg=>rfl);(case hr=>first | (go_simp;done) | (go_simp;rfl));(case hp=>exact (Reps.one (show Kd.M (Kd.int .u8) _ _ _ (bt (⟨#[48,49,50,51,52,53,54,55,56,57,97,98,99,100,101,102]⟩:ByteArray) (g)) [.int .u8 (bt (⟨#[48,49,50,51,52,53,54,55,56,57,97,98,99,100,101,102]⟩:ByteArray) (g))] from rfl) (Reps.one (show Kd.M (Kd.int .u8) _ _ _ (bt (⟨#[48,49,50,51,52,53,54,55,56,57,97,98,99,100,101,102]⟩:ByteArray) (d)) [.int .u8 (bt (⟨#[48,49,50,51,52,53,54,55,56,57,97,98,99,100,101,102]⟩:ByteArray) (d))] from rfl) (Reps.none _ _))));intro ak ao m hb hg_ hnew_;clear hg_ hnew_;(first | rw [← u.out] at m | (simp only [Int.reduceToNat] at m;rw [← u.out] at m));have l:=Aside0.mk (Kd.R_lower (Kd.R_new' m (Kd.R_lt (zR j))) (below_size zB));replace j:=Aside0.mk (Kd.R_elder' (zR j) (Kd.R_base m) hb);replace HB:=zbs HB hb;clear hb m;obtain ⟨V,W,z⟩:=Kd.R_slice l.out;(first | subst z | (injection z with f1_ f2_ f3_;have f4_:=f1_.symm;have f5_:=f3_.symm;clear f1_ f2_ f3_;subst f4_;subst f5_));refine hK.out _ _ trivial (fun hHeld=>?_);clear hK K;refine norm_ (a':=?_) ?_ ?_;rotate_left
     ·show Act.put _ (some 26) _=_;simp only [Act.put,List.setIfInBounds_toArray,List.set_cons_zero,List.set_cons_succ,i64_w,i32_w];rfl
     refine zOn 14 27 32767 fun K hK=>?_;refine Kd.R_append_rows_step (Kd.int .u8) (w0:=w) w.heap.size (by rfl) (.tmp 13) (.tmp 26) 126 5 (.int .u8 0) 1 rfl Tryz.underlying126 info5 rfl (by decide) (by omega) u4 b c _ _ _ (fun k_=>some k_≠(.slice V c.length W:Value).ownBlock) (fun _=>False) rfl rfl ?aO ?aR (fun _ _ h=>h) (fun _ h=>h.elim) ?aF ?aB ?aS ?aL ?_;(case aR=>repeat (first | exact (Kd.R_reads' l.out).2.2 | (with_reducible refine Kd.C_alloc ?_ _) | (with_reducible refine Kd.C_drewN ?_ _) | (with_reducible refine Kd.C_drew ?_)));(case aB=>exact zB);(case aF=>exact (fun k_ hk=>Kd.fresh' (Kd.R_lt (zR l)) k_ hk));(case aO=>exact (by (with_reducible repeat (first | apply Kd.R_alloc | apply Kd.R_drewN | apply Kd.R_drew));exact Kd.R_mono j.out (fun _ hk=>hk.2)));(case aS=>exact (below_size zB));(case aL=>have:=D.out;omega);intro al ap ho hb hg hat;rw [← E.out] at ho;replace l:=Aside0.mk (Kd.R_after (ok:=(fun _=>True)) (zR l) hg hat);replace HB:=Aside0.mk (hb);have F:=Aside0.mk (ho);clear j ho hb hg hat;refine hK.out _ _ trivial (fun hHeld=>?_);clear hK K;refine norm_ (a':=?_) ?_ ?_;rotate_left
     ·show Act.put _ (some 27) _=_;simp only [Act.put,List.setIfInBounds_toArray,List.set_cons_zero,List.set_cons_succ,i64_w,i32_w];rfl
     refine zPu 15 4 65535 ?_;refine done_ (done_of HT_.out (by kernel_rfl)) ?_;(try go_wp2);go_roundg k1
     case measure=>have:=G.out;omega
     case rel=>exact ⟨(y),(wrap64 (a+1)),zE,H',⟨by have:=G.out;omega⟩,⟨by (with_reducible repeat (first | apply Kd.R_alloc | apply Kd.R_drewN | apply Kd.R_drew));exact Kd.R_mono F.out (fun _ hk=>trivial)⟩,⟨zB⟩⟩
    ·rw [if_neg B] at H;exact absurd H (by simp)
   ·obtain rfl:=Option.some.inj H;have hcv22:=own_string (P:=Tryz.prog) Tryz.underlying126 Tryz.underlying5 Tryz.underlying9 (Kd.own_of_R j.out);go_wp2;go_ret;exact ⟨zW,zB⟩
def g15digits.f (a:Int):Option (ByteArray):=if a=1 then (some (⟨#[49,48,48,54,52,52,32]⟩:ByteArray)) else (if a=2 then (some (⟨#[49,48,48,55,53,53,32]⟩:ByteArray)) else (if a=3 then (some (⟨#[49,50,48,48,48,48,32]⟩:ByteArray)) else (some (⟨#[52,48,48,48,48,32]⟩:ByteArray))))
set_option maxHeartbeats 8000000 in
set_option maxRecDepth 100000 in
theorem g15digits.calls (b:Int) (r:ByteArray) (w:World) (h:g15digits.f b=some r) :
  Calls Tryz.prog 85 #[.int .i64 b] w fun e w'=>e=.returned (.string r)∧Drawn0 w w':=by
 have H:(if b=1 then (some (⟨#[49,48,48,54,52,52,32]⟩:ByteArray)) else (if b=2 then (some (⟨#[49,48,48,55,53,53,32]⟩:ByteArray)) else (if b=3 then (some (⟨#[49,50,48,48,48,48,32]⟩:ByteArray)) else (some (⟨#[52,48,48,48,48,32]⟩:ByteArray)))))=some r:=h;clear h;replace H:=zbb H;rcases H with ⟨c,d,H⟩ | ⟨m,c,d,H⟩
 ·obtain rfl:=Option.some.inj H;go_enter Tryz.func85,Tryz.ntmps85;go_wp2;go_ret;exact ⟨zE,zDr⟩
 ·by_cases a:b=2
  ·rw [if_pos a] at H;have g:=beq_iff_eq.mpr a;have i:=bne_eq_false_iff_eq.mpr a;clear a;obtain rfl:=Option.some.inj H;go_enter Tryz.func85,Tryz.ntmps85;go_wp2;go_ret;exact ⟨zE,zDr⟩
  ·rw [if_neg a] at H;have g:=beq_eq_false_iff_ne.mpr a;have i:=bne_iff_ne.mpr a;replace H:=zbb H;rcases H with ⟨j,l,H⟩ | ⟨o,j,l,H⟩
   ·obtain rfl:=Option.some.inj H;go_enter Tryz.func85,Tryz.ntmps85;go_wp2;go_ret;exact ⟨zE,zDr⟩
   ·obtain rfl:=Option.some.inj H;go_enter Tryz.func85,Tryz.ntmps85;go_wp2;go_ret;exact ⟨zE,zDr⟩
def g15begins.f (b:ByteArray) (a:ByteArray):Option (Bool):=if (b.size:Int)≥(a.size:Int) then (if 0≤(a.size:Int) then (if (a.size:Int)≤(b.size:Int) then (some ((b.extract 0 ((a.size:Int):Int).toNat).toList == a.toList)) else (none)) else (none)) else (some false)
set_option maxHeartbeats 8000000 in
set_option maxRecDepth 100000 in
theorem g15begins.calls (b:ByteArray) (a:ByteArray) (r:Bool) (w:World) (h:g15begins.f b a=some r) :
  Calls Tryz.prog 125 #[.string b,.string a] w fun e w'=>e=.returned (.bool r)∧Drawn0 w w':=by
 have H:(if (b.size:Int)≥(a.size:Int) then (if 0≤(a.size:Int) then (if (a.size:Int)≤(b.size:Int) then (some ((b.extract 0 ((a.size:Int):Int).toNat).toList == a.toList)) else (none)) else (none)) else (some false))=some r:=h;clear h;replace H:=zdg H;rcases H with ⟨c,d,H⟩ | ⟨c,d,H⟩
 ·have g:decide (a.size≤b.size)=true:=decide_eq_true (Int.ofNat_le.mp c);clear c;replace H:=zen H;obtain ⟨i,j,H⟩:=H;replace H:=zen H;obtain ⟨l,m,H⟩:=H;obtain rfl:=Option.some.inj H;go_enter Tryz.func125,Tryz.ntmps125;go_wp2;go_ret;exact ⟨zE,zDr⟩
 ·have g:decide (a.size≤b.size)=false:=decide_eq_false (fun h=>c (Int.ofNat_le.mpr h));clear c;obtain rfl:=Option.some.inj H;go_enter Tryz.func125,Tryz.ntmps125;go_wp2;go_ret;exact ⟨zE,zDr⟩
mutual
def g15mode.l0:Nat→ByteArray→Int→Option (Int)
 | 0,_,_=>none
 | k+1,a,b=>if b≤4 then ((g15digits.f b).bind fun c=>((g15begins.f a c).bind fun d=>(if d=true then (some b) else (g15mode.l0 k a (wrap64 (b+1)))))) else (g15mode.l1 k a 1)
def g15mode.l1:Nat→ByteArray→Int→Option (Int)
 | 0,_,_=>none
 | k+1,a,e=>if e≤4 then ((g15digits.f e).bind fun g=>((g15begins.f g a).bind fun h=>(if h=true then (some (-1)) else (g15mode.l1 k a (wrap64 (e+1)))))) else (some 0)
end
def g15mode.f (k:Nat) (a:ByteArray):Option (Int):=g15mode.l0 k a 1
set_option maxHeartbeats 8000000 in
set_option maxRecDepth 100000 in
theorem g15mode.calls (k:Nat) (c:ByteArray) (r:Int) (w:World) (h:g15mode.f k c=some r) :
  Calls Tryz.prog 95 #[.string c] w fun e w'=>e=.returned (.int .i64 r)∧Drawn0 w w':=by
 have H:(g15mode.l0 k c 1)=some r:=h;clear h;have H':=Aside0.mk H;clear H;go_enter Tryz.func95,Tryz.ntmps95;go_wp2;go_loopg [3] k (fun kq y w'=>∃ (a:Int),y=.int .i64 a∧Aside0 (g15mode.l0 kq c a=some r)∧Aside0 (kq≤k)∧Drawn0 w w')
 case atStart=>exact ⟨(1),zE,H',⟨Nat.le_refl _⟩,zDr⟩
 case round =>
  clear H';obtain ⟨a,rfl,HA,i,⟨A,rfl⟩⟩:=hrel;cases gk with
  | zero=>exact absurd HA.out (by simp [g15mode.l0])
  | succ k1 =>
   have H:=HA.out;clear HA;simp only [g15mode.l0] at H;replace H:=zdd H;rcases H with ⟨j,H⟩ | ⟨j,H⟩
   ·replace H:=zbd H;obtain ⟨d,t,H⟩:=H;replace H:=zbd H;obtain ⟨p,u,H⟩:=H;by_cases l:p=true
    ·subst l;have H1:(some a)=some r:=by rw [if_pos rfl] at H;exact H
     clear H;have H:=H1;clear H1;obtain rfl:=Option.some.inj H;go_wp2_with (first | ((with_reducible refine zgc 85 ?_);refine zGL 11 Tryz.func85 #[.int .i64 a] ?_;(with_reducible refine (g15digits.calls a d _ t.out).mono ?_);rintro e w' ⟨rfl,⟨nd,rfl⟩⟩;refine ⟨_,rfl,?_⟩) | ((with_reducible refine zgc 125 ?_);refine zGL 12 Tryz.func125 #[.string c,.string d] ?_;(with_reducible refine (g15begins.calls c d true _ u.out).mono ?_);rintro e w' ⟨rfl,⟨nd,rfl⟩⟩;refine ⟨_,rfl,?_⟩));go_ret;exact ⟨zE,zDr⟩
    ·replace l:=Bool.eq_false_iff.mpr l;subst l;have H1:(g15mode.l0 k1 c (wrap64 (a+1)))=some r:=by rw [if_neg (show ¬ (false=true) by decide)] at H;exact H
     clear H;have H:=H1;clear H1;have H':=Aside0.mk H;clear H;go_wp2_with (first | ((with_reducible refine zgc 85 ?_);refine zGL 11 Tryz.func85 #[.int .i64 a] ?_;(with_reducible refine (g15digits.calls a d _ t.out).mono ?_);rintro e w' ⟨rfl,⟨nd,rfl⟩⟩;refine ⟨_,rfl,?_⟩) | ((with_reducible refine zgc 125 ?_);refine zGL 12 Tryz.func125 #[.string c,.string d] ?_;(with_reducible refine (g15begins.calls c d false _ u.out).mono ?_);rintro e w' ⟨rfl,⟨nd,rfl⟩⟩;refine ⟨_,rfl,?_⟩));go_roundg k1
     case measure=>have:=i.out;omega
     case rel=>exact ⟨(wrap64 (a+1)),zE,H',⟨by have:=i.out;omega⟩,zDr⟩
   ·have H':=Aside0.mk H;clear H;go_wp2;go_loopg [4] k1 (fun kq z w'=>∃ (b:Int),z=.int .i64 b∧Aside0 (g15mode.l1 kq c b=some r)∧Aside0 (kq≤k1)∧Drawn0 w w')
    case atStart=>exact ⟨(1),zE,H',⟨Nat.le_refl _⟩,zDr⟩
    case round =>
     clear H' j;obtain ⟨b,rfl,HA,o,⟨E,rfl⟩⟩:=hrel;cases gk with
     | zero=>exact absurd HA.out (by simp [g15mode.l1])
     | succ k2 =>
      have H:=HA.out;clear HA;simp only [g15mode.l1] at H;replace H:=zdd H;rcases H with ⟨q,H⟩ | ⟨q,H⟩
      ·replace H:=zbd H;obtain ⟨g,v,H⟩:=H;replace H:=zbd H;obtain ⟨s,x,H⟩:=H;by_cases m:s=true
       ·subst m;have H1:(some (-1))=some r:=by rw [if_pos rfl] at H;exact H
        clear H;have H:=H1;clear H1;obtain rfl:=Option.some.inj H;go_wp2_with (first | ((with_reducible refine zgc 85 ?_);refine zGL 19 Tryz.func85 #[.int .i64 b] ?_;(with_reducible refine (g15digits.calls b g _ v.out).mono ?_);rintro e w' ⟨rfl,⟨nd,rfl⟩⟩;refine ⟨_,rfl,?_⟩) | ((with_reducible refine zgc 125 ?_);refine zGL 21 Tryz.func125 #[.string g,.string c] ?_;(with_reducible refine (g15begins.calls g c true _ x.out).mono ?_);rintro e w' ⟨rfl,⟨nd,rfl⟩⟩;refine ⟨_,rfl,?_⟩));go_ret;exact ⟨zE,zDr⟩
       ·replace m:=Bool.eq_false_iff.mpr m;subst m;have H1:(g15mode.l1 k2 c (wrap64 (b+1)))=some r:=by rw [if_neg (show ¬ (false=true) by decide)] at H;exact H
        clear H;have H:=H1;clear H1;have H':=Aside0.mk H;clear H;go_wp2_with (first | ((with_reducible refine zgc 85 ?_);refine zGL 19 Tryz.func85 #[.int .i64 b] ?_;(with_reducible refine (g15digits.calls b g _ v.out).mono ?_);rintro e w' ⟨rfl,⟨nd,rfl⟩⟩;refine ⟨_,rfl,?_⟩) | ((with_reducible refine zgc 125 ?_);refine zGL 21 Tryz.func125 #[.string g,.string c] ?_;(with_reducible refine (g15begins.calls g c false _ x.out).mono ?_);rintro e w' ⟨rfl,⟨nd,rfl⟩⟩;refine ⟨_,rfl,?_⟩));go_roundg k2
        case measure=>have:=i.out;have:=o.out;omega
        case rel=>exact ⟨(wrap64 (b+1)),zE,H',⟨by have:=i.out;have:=o.out;omega⟩,zDr⟩
      ·obtain rfl:=Option.some.inj H;go_wp2;go_ret;exact ⟨zE,zDr⟩
def g14Find.l0:Nat→ByteArray→Int→Int→Option (Int)
 | 0,_,_,_=>none
 | k+1,b,c,a=>if a < (b.size:Int) then (if 0≤a then (if (bt b a)=c then (some a) else (g14Find.l0 k b c (wrap64 (a+1)))) else (none)) else (some (-1))
def g14Find.f (k:Nat) (a:ByteArray) (b:Int) (c:Int):Option (Int):=g14Find.l0 k a b c
set_option maxHeartbeats 8000000 in
set_option maxRecDepth 100000 in
theorem g14Find.calls (k:Nat) (b:ByteArray) (g:Int) (i:Int) (r:Int) (w:World) (h:g14Find.f k b g i=some r) :
  Calls Tryz.prog 96 #[.string b,.int .u8 g,.int .i64 i] w fun e w'=>e=.returned (.int .i64 r)∧Drawn0 w w':=by
 have H:(g14Find.l0 k b g i)=some r:=h;clear h;have H':=Aside0.mk H;clear H;go_enter Tryz.func96,Tryz.ntmps96;go_wp2;go_loopg [7] k (fun kq s w'=>∃ (a:Int),s=.int .i64 a∧Aside0 (g14Find.l0 kq b g a=some r)∧Aside0 (kq≤k)∧Drawn0 w w')
 case atStart=>exact ⟨(i),zE,H',⟨Nat.le_refl _⟩,zDr⟩
 case round =>
  clear H';obtain ⟨a,rfl,HA,l,⟨v,rfl⟩⟩:=hrel;cases gk with
  | zero=>exact absurd HA.out (by simp [g14Find.l0])
  | succ k1 =>
   have H:=HA.out;clear HA;simp only [g14Find.l0] at H;replace H:=zdd H;rcases H with ⟨m,H⟩ | ⟨m,H⟩
   ·by_cases j:0≤a
    ·rw [if_pos j] at H;have t:=decide_eq_true j;clear j;replace H:=zbb H;rcases H with ⟨o,p,H⟩ | ⟨x,o,p,H⟩
     ·obtain rfl:=Option.some.inj H;have c:0≤(a:Int):=zD;have d:a < (b.size:Int):=zD;have q:=bt_at b a;replace c:=eq_true c;replace d:=eq_true d;go_wp2;go_ret;exact ⟨zE,zDr⟩
     ·have H':=Aside0.mk H;clear H;have c:0≤(a:Int):=zD;have d:a < (b.size:Int):=zD;have q:=bt_at b a;replace c:=eq_true c;replace d:=eq_true d;go_wp2;go_roundg k1
      case measure=>have:=l.out;omega
      case rel=>exact ⟨(wrap64 (a+1)),zE,H',⟨by have:=l.out;omega⟩,zDr⟩
    ·rw [if_neg j] at H;exact absurd H (by simp)
   ·obtain rfl:=Option.some.inj H;go_wp2;go_ret;exact ⟨zE,zDr⟩
end Go.Proofs.YtninnmdpnoebaaaGreatDoor.PRa
end
section
namespace Go.Proofs.YtninnmdpnoebaaaGreatDoor.PRa
open Go.Proofs.YtninnmdpnoebaaaGreatDoor.Sq Go.Proofs.YtninnmdpnoebaaaGreatDoor.Hand Go.RowKit Go.Proofs.YtninnmdpnoebaaaGreatDoorW.PrintWords Go.Proofs.YtninnmdpnoebaaaGreatDoorW.PrintLast Go.Proofs.YtninnmdpnoebaaaGreatDoorW.PrintMore
attribute [local go_sem] max2_int min2_int max_two min_two max_three min_three max_four min_four
set_option linter.unusedVariables false
set_option linter.unusedSimpArgs false
def g15one.f (k:Nat) (e:ByteArray):Option (Int × ByteArray × ByteArray × Int × Int):=(g15mode.f k e).bind fun c=>(if c < 0 then (some (0,(⟨#[]⟩:ByteArray),(⟨#[]⟩:ByteArray),0,3)) else (if c=0 then (some (0,(⟨#[]⟩:ByteArray),(⟨#[]⟩:ByteArray),0,2)) else ((g15digits.f c).bind fun d=>((g14Find.f k e 0 (d.size:Int)).bind fun a=>(if a < 0 then (some (0,(⟨#[]⟩:ByteArray),(⟨#[]⟩:ByteArray),0,3)) else (if (wrap64 ((e.size:Int) - a)) < 21 then (some (0,(⟨#[]⟩:ByteArray),(⟨#[]⟩:ByteArray),0,3)) else (if 0≤(d.size:Int) then (if (d.size:Int)≤a then (if a≤(e.size:Int) then (if 0≤(wrap64 (a+1)) then (if (wrap64 (a+1))≤(wrap64 (a+21)) then (if (wrap64 (a+21))≤(e.size:Int) then ((g02Hex.f k (e.extract ((wrap64 (a+1)):Int).toNat ((wrap64 (a+21)):Int).toNat)).bind fun g=>(some (c,e.extract ((d.size:Int):Int).toNat (a:Int).toNat,g,wrap64 (a+21),0))) else (none)) else (none)) else (none)) else (none)) else (none)) else (none))))))))
def g15one.T10:Bool × List (List Nat × List Nat):=(true,[([],[]),([],[]),([],[]),([],[]),([1,2,3],[1,2,3]),([],[]),([],[]),([6],[6]),([],[]),([8],[8]),([5,7,9],[5,7,9]),([10],[10]),([0,4,11],[0,4,11]),([],[]),([13],[13]),([12,11,0,1,2,3,4,5,6,7,8,9,10,11,12],[12]),([14,15,0,1,2,3,4,5,6,7,8,9,10,11,12,13,14,15],[14]),([16,0,1,2,3,4,5,6,7,8,9,10,11,12,13,14,15,16],[])])
def g15one.B10:List Nat:=[0,0,0,0,14,0,0,64,0,256,992,2016,4095,0,8192,8191,65535,131071]
theorem g15one.tab10:rtab .any (opsOf Tryz.f71 10)=g15one.T10:=by kernel_rfl
theorem g15one.bits10:waitsOk g15one.T10.2 g15one.B10=true:=by kernel_rfl
set_option maxHeartbeats 8000000 in
set_option maxRecDepth 100000 in
theorem g15one.calls (k:Nat) (o:ByteArray) (E:Int) (F:ByteArray) (G:ByteArray) (I:Int) (J:Int) (w:World) (h:g15one.f k o=some (E,F,G,I,J)) :
  Calls Tryz.prog 71 #[.string o] w fun e w'=>e=.returned (.tuple #[.agg #[.int .i64 E,.string F,.string G],.int .i64 I,.int .i64 J])∧Below w.heap.size w w':=by
 have W:=Tryz.underlying110;have HB:=Aside0.mk (Below.refl w.heap.size w);have H:((g15mode.f k o).bind fun l=>(if l < 0 then (some (0,(⟨#[]⟩:ByteArray),(⟨#[]⟩:ByteArray),0,3)) else (if l=0 then (some (0,(⟨#[]⟩:ByteArray),(⟨#[]⟩:ByteArray),0,2)) else ((g15digits.f l).bind fun m=>((g14Find.f k o 0 (m.size:Int)).bind fun c=>(if c < 0 then (some (0,(⟨#[]⟩:ByteArray),(⟨#[]⟩:ByteArray),0,3)) else (if (wrap64 ((o.size:Int) - c)) < 21 then (some (0,(⟨#[]⟩:ByteArray),(⟨#[]⟩:ByteArray),0,3)) else (if 0≤(m.size:Int) then (if (m.size:Int)≤c then (if c≤(o.size:Int) then (if 0≤(wrap64 (c+1)) then (if (wrap64 (c+1))≤(wrap64 (c+21)) then (if (wrap64 (c+21))≤(o.size:Int) then ((g02Hex.f k (o.extract ((wrap64 (c+1)):Int).toNat ((wrap64 (c+21)):Int).toNat)).bind fun t=>(some (l,o.extract ((m.size:Int):Int).toNat (c:Int).toNat,t,wrap64 (c+21),0))) else (none)) else (none)) else (none)) else (none)) else (none)) else (none)))))))))=some (E,F,G,I,J):=h;clear h;replace H:=zbd H;obtain ⟨l,B,H⟩:=H;replace H:=zdd H;rcases H with ⟨Q,H⟩ | ⟨Q,H⟩
 ·simp only [Option.some.injEq,Prod.mk.injEq] at H;obtain ⟨rfl,rfl,rfl,rfl,rfl⟩:=H;go_enter Tryz.func71,Tryz.ntmps71;go_wp2_with (first | ((with_reducible refine zgd 2 ?_);(try (refine gate_guard (by rfl) ?_;dsimp only));refine zBx 2 #[.int .i64 0,.string (⟨#[]⟩:ByteArray),.string (⟨#[]⟩:ByteArray)] 110 ?_;intro d hg C hbox hb;have a:=Aside0.mk (hbox);have v:=zGE HB hg;have x:=zGE HB hg;replace HB:=zbs HB hb;clear hb hbox hg) | ((with_reducible refine zgc 95 ?_);refine zGL 9 Tryz.func95 #[.string o] ?_;(with_reducible refine (g15mode.calls k o l _ B.out).mono ?_);rintro e w' ⟨rfl,⟨nd,rfl⟩⟩;refine ⟨_,rfl,?_⟩;(try (rw [drewN_self C];generalize hq_:World.drewN C _=C;have g:Aside0 (C.heap[d]? = some (.cells #[.int .i64 0,.string (⟨#[]⟩:ByteArray),.string (⟨#[]⟩:ByteArray)] 110 (0,0))):=⟨by rw [← hq_];exact (zb a)⟩;have j:Aside0 (Below w.heap.size w C):=⟨by rw [← hq_];exact zB⟩;clear a HB hq_;have a:=g;have HB:=j;clear g j));have al:=zF3 a));refine bodyPost_ret (results_ctt rfl _ _ d 110 #[.int .i64 0,.string (⟨#[]⟩:ByteArray),.string (⟨#[]⟩:ByteArray)] (0,0) _ rfl (zc a) Tryz.underlying110 rfl (by kernel_rfl)) rfl ?_;exact ⟨zW,zB⟩
 ·by_cases z:l=0
  ·rw [if_pos z] at H;have R:=beq_iff_eq.mpr z;have T:=bne_eq_false_iff_eq.mpr z;clear z;simp only [Option.some.injEq,Prod.mk.injEq] at H;obtain ⟨rfl,rfl,rfl,rfl,rfl⟩:=H;go_enter Tryz.func71,Tryz.ntmps71;go_wp2_with (first | ((with_reducible refine zgd 2 ?_);(try (refine gate_guard (by rfl) ?_;dsimp only));refine zBx 2 #[.int .i64 0,.string (⟨#[]⟩:ByteArray),.string (⟨#[]⟩:ByteArray)] 110 ?_;intro d hg D hbox hb;have a:=Aside0.mk (hbox);have v:=zGE HB hg;have x:=zGE HB hg;replace HB:=zbs HB hb;clear hb hbox hg) | ((with_reducible refine zgc 95 ?_);refine zGL 9 Tryz.func95 #[.string o] ?_;(with_reducible refine (g15mode.calls k o l _ B.out).mono ?_);rintro e w' ⟨rfl,⟨nd,rfl⟩⟩;refine ⟨_,rfl,?_⟩;(try (rw [drewN_self D];generalize hq_:World.drewN D _=D;have g:Aside0 (D.heap[d]? = some (.cells #[.int .i64 0,.string (⟨#[]⟩:ByteArray),.string (⟨#[]⟩:ByteArray)] 110 (0,0))):=⟨by rw [← hq_];exact (zb a)⟩;have j:Aside0 (Below w.heap.size w D):=⟨by rw [← hq_];exact zB⟩;clear a HB hq_;have a:=g;have HB:=j;clear g j));have am:=zF3 a));refine bodyPost_ret (results_ctt rfl _ _ d 110 #[.int .i64 0,.string (⟨#[]⟩:ByteArray),.string (⟨#[]⟩:ByteArray)] (0,0) _ rfl (zc a) Tryz.underlying110 rfl (by kernel_rfl)) rfl ?_;exact ⟨zW,zB⟩
  ·rw [if_neg z] at H;have R:=beq_eq_false_iff_ne.mpr z;have T:=bne_iff_ne.mpr z;replace H:=zbd H;obtain ⟨m,L,H⟩:=H;replace H:=zbd H;obtain ⟨c,A,H⟩:=H;replace H:=zdd H;rcases H with ⟨M,H⟩ | ⟨M,H⟩
   ·simp only [Option.some.injEq,Prod.mk.injEq] at H;obtain ⟨rfl,rfl,rfl,rfl,rfl⟩:=H;go_enter Tryz.func71,Tryz.ntmps71;go_wp2_with (first | ((with_reducible refine zgd 2 ?_);(try (refine gate_guard (by rfl) ?_;dsimp only));refine zBx 2 #[.int .i64 0,.string (⟨#[]⟩:ByteArray),.string (⟨#[]⟩:ByteArray)] 110 ?_;intro d hg q hbox hb;have a:=Aside0.mk (hbox);have v:=zGE HB hg;have x:=zGE HB hg;replace HB:=zbs HB hb;clear hb hbox hg) | ((with_reducible refine zgc 95 ?_);refine zGL 9 Tryz.func95 #[.string o] ?_;(with_reducible refine (g15mode.calls k o l _ B.out).mono ?_);rintro e w' ⟨rfl,⟨nd,rfl⟩⟩;refine ⟨_,rfl,?_⟩;(try (rw [drewN_self q];generalize hq_:World.drewN q _=q;have g:Aside0 (q.heap[d]? = some (.cells #[.int .i64 0,.string (⟨#[]⟩:ByteArray),.string (⟨#[]⟩:ByteArray)] 110 (0,0))):=⟨by rw [← hq_];exact (zb a)⟩;have j:Aside0 (Below w.heap.size w q):=⟨by rw [← hq_];exact zB⟩;clear a HB hq_;have a:=g;have HB:=j;clear g j))) | ((with_reducible refine zgc 85 ?_);refine zGL 17 Tryz.func85 #[.int .i64 l] ?_;(with_reducible refine (g15digits.calls l m _ L.out).mono ?_);rintro e w' ⟨rfl,⟨nd,rfl⟩⟩;refine ⟨_,rfl,?_⟩;(try (rw [drewN_self q];generalize hq_:World.drewN q _=q;have g:Aside0 (q.heap[d]? = some (.cells #[.int .i64 0,.string (⟨#[]⟩:ByteArray),.string (⟨#[]⟩:ByteArray)] 110 (0,0))):=⟨by rw [← hq_];exact (zb a)⟩;have j:Aside0 (Below w.heap.size w q):=⟨by rw [← hq_];exact zB⟩;clear a HB hq_;have a:=g;have HB:=j;clear g j))) | ((with_reducible refine zgc 96 ?_);refine zGL 21 Tryz.func96 #[.string o,.int .u8 0,.int .i64 (m.size:Int)] ?_;(with_reducible refine (g14Find.calls k o 0 (m.size:Int) c _ A.out).mono ?_);rintro e w' ⟨rfl,⟨nd,rfl⟩⟩;refine ⟨_,rfl,?_⟩;(try (rw [drewN_self q];generalize hq_:World.drewN q _=q;have g:Aside0 (q.heap[d]? = some (.cells #[.int .i64 0,.string (⟨#[]⟩:ByteArray),.string (⟨#[]⟩:ByteArray)] 110 (0,0))):=⟨by rw [← hq_];exact (zb a)⟩;have j:Aside0 (Below w.heap.size w q):=⟨by rw [← hq_];exact zB⟩;clear a HB hq_;have a:=g;have HB:=j;clear g j));have aj:=zF3 a));refine bodyPost_ret (results_ctt rfl _ _ d 110 #[.int .i64 0,.string (⟨#[]⟩:ByteArray),.string (⟨#[]⟩:ByteArray)] (0,0) _ rfl (zc a) Tryz.underlying110 rfl (by kernel_rfl)) rfl ?_;exact ⟨zW,zB⟩
   ·by_cases y:(wrap64 ((o.size:Int) - c)) < 21
    ·rw [if_pos y] at H;have O:=decide_eq_true y;clear y;simp only [Option.some.injEq,Prod.mk.injEq] at H;obtain ⟨rfl,rfl,rfl,rfl,rfl⟩:=H;go_enter Tryz.func71,Tryz.ntmps71;go_wp2_with (first | ((with_reducible refine zgd 2 ?_);(try (refine gate_guard (by rfl) ?_;dsimp only));refine zBx 2 #[.int .i64 0,.string (⟨#[]⟩:ByteArray),.string (⟨#[]⟩:ByteArray)] 110 ?_;intro d hg r hbox hb;have a:=Aside0.mk (hbox);have v:=zGE HB hg;have x:=zGE HB hg;replace HB:=zbs HB hb;clear hb hbox hg) | ((with_reducible refine zgc 95 ?_);refine zGL 9 Tryz.func95 #[.string o] ?_;(with_reducible refine (g15mode.calls k o l _ B.out).mono ?_);rintro e w' ⟨rfl,⟨nd,rfl⟩⟩;refine ⟨_,rfl,?_⟩;(try (rw [drewN_self r];generalize hq_:World.drewN r _=r;have g:Aside0 (r.heap[d]? = some (.cells #[.int .i64 0,.string (⟨#[]⟩:ByteArray),.string (⟨#[]⟩:ByteArray)] 110 (0,0))):=⟨by rw [← hq_];exact (zb a)⟩;have j:Aside0 (Below w.heap.size w r):=⟨by rw [← hq_];exact zB⟩;clear a HB hq_;have a:=g;have HB:=j;clear g j))) | ((with_reducible refine zgc 85 ?_);refine zGL 17 Tryz.func85 #[.int .i64 l] ?_;(with_reducible refine (g15digits.calls l m _ L.out).mono ?_);rintro e w' ⟨rfl,⟨nd,rfl⟩⟩;refine ⟨_,rfl,?_⟩;(try (rw [drewN_self r];generalize hq_:World.drewN r _=r;have g:Aside0 (r.heap[d]? = some (.cells #[.int .i64 0,.string (⟨#[]⟩:ByteArray),.string (⟨#[]⟩:ByteArray)] 110 (0,0))):=⟨by rw [← hq_];exact (zb a)⟩;have j:Aside0 (Below w.heap.size w r):=⟨by rw [← hq_];exact zB⟩;clear a HB hq_;have a:=g;have HB:=j;clear g j))) | ((with_reducible refine zgc 96 ?_);refine zGL 21 Tryz.func96 #[.string o,.int .u8 0,.int .i64 (m.size:Int)] ?_;(with_reducible refine (g14Find.calls k o 0 (m.size:Int) c _ A.out).mono ?_);rintro e w' ⟨rfl,⟨nd,rfl⟩⟩;refine ⟨_,rfl,?_⟩;(try (rw [drewN_self r];generalize hq_:World.drewN r _=r;have g:Aside0 (r.heap[d]? = some (.cells #[.int .i64 0,.string (⟨#[]⟩:ByteArray),.string (⟨#[]⟩:ByteArray)] 110 (0,0))):=⟨by rw [← hq_];exact (zb a)⟩;have j:Aside0 (Below w.heap.size w r):=⟨by rw [← hq_];exact zB⟩;clear a HB hq_;have a:=g;have HB:=j;clear g j));have ak:=zF3 a));refine bodyPost_ret (results_ctt rfl _ _ d 110 #[.int .i64 0,.string (⟨#[]⟩:ByteArray),.string (⟨#[]⟩:ByteArray)] (0,0) _ rfl (zc a) Tryz.underlying110 rfl (by kernel_rfl)) rfl ?_;exact ⟨zW,zB⟩
    ·rw [if_neg y] at H;have O:=decide_eq_false y;clear y;replace H:=zen H;obtain ⟨X,Y,H⟩:=H;replace H:=zen H;obtain ⟨Z,aa,H⟩:=H;replace H:=zen H;obtain ⟨ab,ac,H⟩:=H;obtain ⟨u,s⟩:=zj (α:=Int) (wrap64 (c+1));replace H:(if 0≤(u) then (if (u)≤(wrap64 (c+21)) then (if (wrap64 (c+21))≤(o.size:Int) then ((g02Hex.f k (o.extract ((u):Int).toNat ((wrap64 (c+21)):Int).toNat)).bind fun t=>(some (l,o.extract ((m.size:Int):Int).toNat (c:Int).toNat,t,wrap64 (c+21),0))) else (none)) else (none)) else (none))=some (E,F,G,I,J):=zJ s H;(try rw [s] at B);(try rw [s] at L);(try rw [s] at A);have U:(IntKind.i64.wrap (c+1))=u:=(i64_w _).trans s;replace H:=zen H;obtain ⟨ad,ae,H⟩:=H;replace H:=zcn H;obtain ⟨an,af,ag,H⟩:=H;replace H:=zcn H;obtain ⟨ao,ah,ai,H⟩:=H;replace H:=zbd H;obtain ⟨t,V,H⟩:=H;simp only [Option.some.injEq,Prod.mk.injEq] at H;obtain ⟨rfl,rfl,rfl,rfl,rfl⟩:=H;go_enter Tryz.func71,Tryz.ntmps71;(try go_wp2_with (first | ((with_reducible refine zgd 2 ?_);(try (refine gate_guard (by rfl) ?_;dsimp only));refine zBx 2 #[.int .i64 0,.string (⟨#[]⟩:ByteArray),.string (⟨#[]⟩:ByteArray)] 110 ?_;intro d hg p hbox hb;have a:=Aside0.mk (hbox);have v:=zGE HB hg;have x:=zGE HB hg;replace HB:=zbs HB hb;clear hb hbox hg) | ((with_reducible refine zgc 95 ?_);refine zGL 9 Tryz.func95 #[.string o] ?_;(with_reducible refine (g15mode.calls k o l _ B.out).mono ?_);rintro e w' ⟨rfl,⟨nd,rfl⟩⟩;refine ⟨_,rfl,?_⟩;(try (rw [drewN_self p];generalize hq_:World.drewN p _=p;have g:Aside0 (p.heap[d]? = some (.cells #[.int .i64 0,.string (⟨#[]⟩:ByteArray),.string (⟨#[]⟩:ByteArray)] 110 (0,0))):=⟨by rw [← hq_];exact (zb a)⟩;have j:Aside0 (Below w.heap.size w p):=⟨by rw [← hq_];exact zB⟩;clear a HB hq_;have a:=g;have HB:=j;clear g j))) | ((with_reducible refine zgc 85 ?_);refine zGL 17 Tryz.func85 #[.int .i64 l] ?_;(with_reducible refine (g15digits.calls l m _ L.out).mono ?_);rintro e w' ⟨rfl,⟨nd,rfl⟩⟩;refine ⟨_,rfl,?_⟩;(try (rw [drewN_self p];generalize hq_:World.drewN p _=p;have g:Aside0 (p.heap[d]? = some (.cells #[.int .i64 0,.string (⟨#[]⟩:ByteArray),.string (⟨#[]⟩:ByteArray)] 110 (0,0))):=⟨by rw [← hq_];exact (zb a)⟩;have j:Aside0 (Below w.heap.size w p):=⟨by rw [← hq_];exact zB⟩;clear a HB hq_;have a:=g;have HB:=j;clear g j))) | ((with_reducible refine zgc 96 ?_);refine zGL 21 Tryz.func96 #[.string o,.int .u8 0,.int .i64 (m.size:Int)] ?_;(with_reducible refine (g14Find.calls k o 0 (m.size:Int) c _ A.out).mono ?_);rintro e w' ⟨rfl,⟨nd,rfl⟩⟩;refine ⟨_,rfl,?_⟩;(try (rw [drewN_self p];generalize hq_:World.drewN p _=p;have g:Aside0 (p.heap[d]? = some (.cells #[.int .i64 0,.string (⟨#[]⟩:ByteArray),.string (⟨#[]⟩:ByteArray)] 110 (0,0))):=⟨by rw [← hq_];exact (zb a)⟩;have j:Aside0 (Below w.heap.size w p):=⟨by rw [← hq_];exact zB⟩;clear a HB hq_;have a:=g;have HB:=j;clear g j)))));replace a:=Aside0.mk (blk_drew a.out);replace HB:=Aside0.mk (below_drew1 HB.out);refine start_ (n:=18) (S:=fun w'=>True) (ds:=[]) (bm 18 0) (by kernel_rfl) rfl rfl trivial (fun hHeld=>?_);refine with_tabW g15one.tab10 g15one.bits10 (fun HT_ HW_=>?_);generalize p.drew=ap at a HB hHeld ⊢;refine zPu 0 32 1 ?_;refine zPu 1 33 3 ?_;refine zPu 2 34 7 ?_;refine zPu 3 35 15 ?_;refine zPu 4 36 31 ?_;refine zPu 5 37 63 ?_;refine zPu 6 38 127 ?_;refine zPu 7 39 255 ?_;refine zPu 8 40 511 ?_;refine zPu 9 41 1023 ?_;refine zPu 10 42 2047 ?_;refine zPu 13 45 10239 ?_;refine zPu 14 46 26623 ?_;refine zOn 11 43 28671 fun K hK=>?_;refine goes_ Tryz.func80 (by kernel_rfl) rfl #[.string (o.extract ((u):Int).toNat ((wrap64 (c+21)):Int).toNat)] (by rfl) rfl rfl (by (try simp only [List.map_toArray,List.map_cons,List.map_nil]);first | done | (simp only [s];rfl) | rfl | (simp only [List.length_drop,List.length_take];rfl)) ?_;(with_reducible refine (g02Hex.calls k (o.extract ((u):Int).toNat ((wrap64 (c+21)):Int).toNat) t _ V.out).mono ?_);rintro e aq ⟨rfl,hb⟩;refine ⟨_,rfl,?_⟩;replace a:=zkb a hb;replace HB:=zbs HB hb;clear hb;refine hK.out _ _ trivial (fun hHeld=>?_);clear hK K;refine norm_ (a':=?_) ?_ ?_;rotate_left
     ·show Act.put _ (some 43) _=_;simp only [Act.put,List.setIfInBounds_toArray,List.set_cons_zero,List.set_cons_succ,i64_w,i32_w];rfl
     refine zPu 12 44 32767 ?_;refine one_ (i:=15) (N:=none) (bm 18 65535) rfl rfl (one_of HT_.out (by kernel_rfl)) (by decide) (fun K hK=>?_);have hs28:=zCz a 0 (.int .i64 0);have hfs28:=zCf a 0;have hs29:=zCz a 1 (.string (⟨#[]⟩:ByteArray));have hfs29:=zCf a 1;have hs30:=zCz a 2 (.string (⟨#[]⟩:ByteArray));have hfs30:=zCf a 2;refine skip_ (w1:=?_) (by rfl) rfl ?_ ?_;rotate_left
     ·go_simp;rfl
     refine hK.out _ _ trivial (fun hHeld=>?_);clear hK K;refine zPu 16 3 131071 ?_;refine zPu 17 4 262143 ?_;refine done_ (done_of HT_.out (by kernel_rfl)) ?_;(try go_wp2);refine bodyPost_ret (results_ctt rfl _ _ d 110 #[.int .i64 l,.string (o.extract ((m.size:Int):Int).toNat (c:Int).toNat),.string t] (0,0) _ rfl (zc a) Tryz.underlying110 rfl (by kernel_rfl)) rfl ?_;exact ⟨by first | rfl | (simp [errW_none,errW_some]<;>rfl) | (simp only [← s];first | rfl | (simp [errW_none,errW_some]<;>rfl)) | (simp [*,errW_none,errW_some]<;>rfl),zB⟩
def g06Parts.l0:Nat→ByteArray→List ByteArray→Int→Int→Option (List ByteArray)
 | 0,_,_,_,_=>none
 | k+1,a,e,d,c=>if c < (a.size:Int) then (if 0≤c then (if (bt a c)=47 then (if 0≤d then (if d≤c then (if c≤(a.size:Int) then (if e.length < 8796093022208 then (g06Parts.l0 k a (e++[a.extract (d:Int).toNat (c:Int).toNat]) (wrap64 (c+1)) (wrap64 (c+1))) else (none)) else (none)) else (none)) else (none)) else (g06Parts.l0 k a e d (wrap64 (c+1)))) else (none)) else (if 0≤d then (if d≤(a.size:Int) then (if e.length < 8796093022208 then (some (e++[a.extract (d:Int).toNat a.size])) else (none)) else (none)) else (none))
def g06Parts.f (k:Nat) (a:ByteArray):Option (List ByteArray):=if a.toList=([]:List UInt8) then (some ([]:List ByteArray)) else (g06Parts.l0 k a ([]:List ByteArray) 0 0)
set_option maxHeartbeats 8000000 in
set_option maxRecDepth 100000 in
theorem g06Parts.calls (k:Nat) (d:ByteArray) (r:List ByteArray) (w:World) (h:g06Parts.f k d=some r) :
  Calls Tryz.prog 55 #[.string d] w fun e w'=>∃ F:Value,e=.returned (F)∧Kd.R Kd.string 9 w' w.heap.size (fun _=>True) F r∧Below w.heap.size w w':=by
 have HB:=Aside0.mk (Below.refl w.heap.size w);have H:(if d.toList=([]:List UInt8) then (some ([]:List ByteArray)) else (g06Parts.l0 k d ([]:List ByteArray) 0 0))=some r:=h;clear h;replace H:=zbb H;rcases H with ⟨q,s,H⟩ | ⟨V,q,s,H⟩
 ·obtain rfl:=Option.some.inj H;go_enter Tryz.func55,Tryz.ntmps55;go_wp2;go_ret;exact ⟨_,zW,by first | exact Kd.R_nil _ _ _ _ _ | exact Kd.N_nil _ _ _ _ _ | exact Kd.V_nil _ _ _ _ _ | exact Kd.Q_nil _ _ _ _ _ | exact Kd.S_nil _ _ _ _ _,zB⟩
 ·have H':=Aside0.mk H;clear H;go_enter Tryz.func55,Tryz.ntmps55;go_wp2;go_loopg [3,4,5] k (fun kq W X Y w'=>∃ (g:List ByteArray) (c:Int) (a:Int),X=.int .i64 c∧Y=.int .i64 a∧Aside0 (g06Parts.l0 kq d g c a=some r)∧Aside0 (kq≤k)∧Aside0 (Kd.R Kd.string 9 w' w.heap.size (fun _=>True) W g)∧Aside0 (Below w.heap.size w w'))
  case atStart=>exact ⟨(([]:List ByteArray)),(0),(0),zE,zE,H',⟨Nat.le_refl _⟩,⟨by first | exact Kd.R_nil _ _ _ _ _ | exact Kd.N_nil _ _ _ _ _ | exact Kd.V_nil _ _ _ _ _ | exact Kd.Q_nil _ _ _ _ _ | exact Kd.S_nil _ _ _ _ _⟩,⟨zB⟩⟩
  case round =>
   clear H' V q s;obtain ⟨g,c,a,rfl,rfl,HA,p,j,HB⟩:=hrel;cases gk with
   | zero=>exact absurd HA.out (by simp [g06Parts.l0])
   | succ k1 =>
    have H:=HA.out;clear HA;simp only [g06Parts.l0] at H;replace H:=zdd H;rcases H with ⟨G,H⟩ | ⟨G,H⟩
    ·by_cases y:0≤a
     ·rw [if_pos y] at H;have Z:=decide_eq_true y;clear y;replace H:=zbb H;rcases H with ⟨I,J,H⟩ | ⟨c6,I,J,H⟩
      ·by_cases t:0≤c
       ·rw [if_pos t] at H;have aa:=eq_true t;have ab:=decide_eq_true t;clear t;replace H:=zen H;obtain ⟨ac,ad,H⟩:=H;replace H:=zen H;obtain ⟨ae,af,H⟩:=H;replace H:=zan H;obtain ⟨z,H⟩:=H;obtain ⟨u,l⟩:=zy (α:=List ByteArray) (g++[d.extract (c:Int).toNat (a:Int).toNat]);replace H:(g06Parts.l0 k1 d u (wrap64 (a+1)) (wrap64 (a+1)))=some r:=zY l H;have A:=Aside0.mk l;clear l;have H':=Aside0.mk H;clear H;have v:0≤(a:Int):=zD;have x:a < (d.size:Int):=zD;have M:=bt_at d a;replace v:=eq_true v;replace x:=eq_true x;go_wp2_with (first | ((with_reducible refine gate_builtin (b:=.append) (xs:=#[.tmp 18,.tmp 23]) rfl ?_);at_builtin;refine Kd.R_append Kd.string (w0:=w) w.heap.size rfl (.tmp 18) (.tmp 23) 27 9 (.string ⟨#[]⟩) 16 rfl Tryz.underlying27 info9 rfl (by decide) (by omega) u3 g (d.extract (c:Int).toNat (a:Int).toNat) [.string (d.extract (c:Int).toNat (a:Int).toNat)] (fun _=>True) (fun _=>False) rfl rfl ?aP (fun _ hk=>hk.elim) ?aF ?aO ?aB ?aS ?aL ?_;(case aP=>exact rfl);(case aB=>exact zB);(case aF=>exact (fun _ _=>trivial));(case aO=>exact (zR j));(case aS=>exact (below_size zB));(case aL=>have:=z.out;omega);intro ag ai ho hb hg hat;rw [← A.out] at ho;replace HB:=Aside0.mk (hb);have B:=Aside0.mk (ho);clear j ho hb hg hat));go_roundg k1
        case measure=>have:=p.out;omega
        case rel=>exact ⟨(u),(wrap64 (a+1)),(wrap64 (a+1)),zE,zE,H',⟨by have:=p.out;omega⟩,⟨(zR B)⟩,⟨zB⟩⟩
       ·rw [if_neg t] at H;exact absurd H (by simp)
      ·have H':=Aside0.mk H;clear H;have v:0≤(a:Int):=zD;have x:a < (d.size:Int):=zD;have M:=bt_at d a;replace v:=eq_true v;replace x:=eq_true x;go_wp2;go_roundg k1
       case measure=>have:=p.out;omega
       case rel=>exact ⟨(g),(c),(wrap64 (a+1)),zE,zE,H',⟨by have:=p.out;omega⟩,⟨(zR j)⟩,⟨zB⟩⟩
     ·rw [if_neg y] at H;exact absurd H (by simp)
    ·by_cases o:0≤c
     ·rw [if_pos o] at H;have O:=eq_true o;have Q:=decide_eq_true o;clear o;replace H:=zen H;obtain ⟨T,U,H⟩:=H;replace H:=zan H;obtain ⟨C,H⟩:=H;obtain ⟨L,m⟩:=zy (α:=List ByteArray) (g++[d.extract (c:Int).toNat d.size]);replace H:(some L)=some r:=zY m H;have D:=Aside0.mk m;clear m;obtain rfl:=Option.some.inj H;go_wp2_with (first | ((with_reducible refine gate_builtin (b:=.append) (xs:=#[.tmp 27,.tmp 31]) rfl ?_);at_builtin;refine Kd.R_append Kd.string (w0:=w) w.heap.size rfl (.tmp 27) (.tmp 31) 27 9 (.string ⟨#[]⟩) 16 rfl Tryz.underlying27 info9 rfl (by decide) (by omega) u3 g (d.extract (c:Int).toNat d.size) [.string (d.extract (c:Int).toNat d.size)] (fun _=>True) (fun _=>False) rfl rfl ?aP (fun _ hk=>hk.elim) ?aF ?aO ?aB ?aS ?aL ?_;(case aP=>exact rfl);(case aB=>exact zB);(case aF=>exact (fun _ _=>trivial));(case aO=>exact (zR j));(case aS=>exact (below_size zB));(case aL=>have:=C.out;omega);intro ah aj ho hb hg hat;rw [← D.out] at ho;replace HB:=Aside0.mk (hb);have E:=Aside0.mk (ho);clear j ho hb hg hat));go_ret;exact ⟨_,zW,(zR E),zB⟩
     ·rw [if_neg o] at H;exact absurd H (by simp)
mutual
def g06part.j0:Nat→ByteArray→Bool→Option (Bool)
 | 0,_,_=>none
 | k+1,a,d=>if d=true then (some false) else (g06part.l0 k a 0)
def g06part.l0:Nat→ByteArray→Int→Option (Bool)
 | 0,_,_=>none
 | k+1,a,c=>if c < (a.size:Int) then (if 0≤c then (if (bt a c) < 32 then (some false) else (if (bt a c)=47 then (some false) else (g06part.l0 k a (wrap64 (c+1))))) else (none)) else (some true)
end
def g06part.f (k:Nat) (a:ByteArray):Option (Bool):=if (a.size:Int) < 1 then (g06part.j0 k a true) else (if (a.size:Int) > 64 then (g06part.j0 k a true) else (if a.toList=([46]:List UInt8) then (g06part.j0 k a true) else (if a.toList=([46,46]:List UInt8) then (g06part.j0 k a true) else (g06part.j0 k a (a.toList == ([46,103,114,97,102,116]:List UInt8))))))
set_option maxHeartbeats 8000000 in
set_option maxRecDepth 100000 in
theorem g06part.calls (k:Nat) (c:ByteArray) (r:Bool) (w:World) (h:g06part.f k c=some r) :
  Calls Tryz.prog 82 #[.string c] w fun e w'=>e=.returned (.bool r)∧Drawn0 w w':=by
 have H:(if (c.size:Int) < 1 then (g06part.j0 k c true) else (if (c.size:Int) > 64 then (g06part.j0 k c true) else (if c.toList=([46]:List UInt8) then (g06part.j0 k c true) else (if c.toList=([46,46]:List UInt8) then (g06part.j0 k c true) else (g06part.j0 k c (c.toList == ([46,103,114,97,102,116]:List UInt8)))))))=some r:=h;clear h;have A:=Aside0.mk H;clear H;go_enter Tryz.func82,Tryz.ntmps82;go_upto_region 1 with (fail);go_cut [23] (fun R wc=>∃ (kq:Nat) (l:Bool),R=.bool l∧Aside0 (g06part.j0 kq c l=some r)∧Aside0 (kq≤k)∧Drawn0 w wc)
 case first =>
  have H:=A.out;clear A;replace H:=zdg H;rcases H with ⟨B,d,H⟩ | ⟨B,d,H⟩
  ·have s:decide (c.size < 1)=true:=decide_eq_true (by omega);clear B;(first | rw [d] | (simp only [i64_w,i32_w];rw [d]) | skip);have H':=Aside0.mk H;clear H;go_wp2;go_meet
   case rel=>exact ⟨_,(true),zE,H',⟨by first | omega | exact Nat.le_refl _⟩,zDr⟩
  ·have s:decide (c.size < 1)=false:=decide_eq_false (by omega);clear B;(first | rw [d] | (simp only [i64_w,i32_w];rw [d]) | skip);replace H:=zdg H;rcases H with ⟨C,t,H⟩ | ⟨C,t,H⟩
   ·have u:decide (64 < c.size)=true:=decide_eq_true (by omega);clear C;have H':=Aside0.mk H;clear H;go_wp2;go_meet
    case rel=>exact ⟨_,(true),zE,H',⟨by first | omega | exact Nat.le_refl _⟩,zDr⟩
   ·have u:decide (64 < c.size)=false:=decide_eq_false (by omega);clear C;replace H:=zbb H;rcases H with ⟨v,x,H⟩ | ⟨T,v,x,H⟩
    ·have H':=Aside0.mk H;clear H;go_wp2;go_meet
     case rel=>exact ⟨_,(true),zE,H',⟨by first | omega | exact Nat.le_refl _⟩,zDr⟩
    ·by_cases o:c.toList=([46,46]:List UInt8)
     ·rw [if_pos o] at H;have y:=beq_iff_eq.mpr o;have z:=bne_eq_false_iff_eq.mpr o;clear o;have H':=Aside0.mk H;clear H;go_wp2;go_meet
      case rel=>exact ⟨_,(true),zE,H',⟨by first | omega | exact Nat.le_refl _⟩,zDr⟩
     ·rw [if_neg o] at H;have y:=beq_eq_false_iff_ne.mpr o;have z:=bne_iff_ne.mpr o;have H':=Aside0.mk H;clear H;go_wp2;go_meet
      case rel=>exact ⟨_,((c.toList == ([46,103,114,97,102,116]:List UInt8))),zE,H',⟨by first | omega | exact Nat.le_refl _⟩,zDr⟩
 case rest =>
  clear A;obtain ⟨kq,l,rfl,HA,L,⟨mc1,rfl⟩⟩:=hcut;cases kq with
  | zero=>exact absurd HA.out (by simp [g06part.j0])
  | succ kj1 =>
   have H:=HA.out;clear HA;simp only [g06part.j0] at H;by_cases D:l=true
   ·subst D;have H1:(some false)=some r:=by rw [if_pos rfl] at H;exact H
    clear H;have H:=H1;clear H1;obtain rfl:=Option.some.inj H;go_wp2;go_ret;exact ⟨zE,zDr⟩
   ·replace D:=Bool.eq_false_iff.mpr D;subst D;have H1:(g06part.l0 kj1 c 0)=some r:=by rw [if_neg (show ¬ (false=true) by decide)] at H;exact H
    clear H;have H:=H1;clear H1;have H':=Aside0.mk H;clear H;go_wp2;go_loopg [3] kj1 (fun kq V w'=>∃ (a:Int),V=.int .i64 a∧Aside0 (g06part.l0 kq c a=some r)∧Aside0 (kq≤kj1)∧Drawn0 w w')
    case atStart=>exact ⟨(0),zE,H',⟨Nat.le_refl _⟩,zDr⟩
    case round =>
     clear H';obtain ⟨a,rfl,HA,M,⟨Y,rfl⟩⟩:=hrel;cases gk with
     | zero=>exact absurd HA.out (by simp [g06part.l0])
     | succ k2 =>
      have H:=HA.out;clear HA;simp only [g06part.l0] at H;replace H:=zdd H;rcases H with ⟨O,H⟩ | ⟨O,H⟩
      ·by_cases F:0≤a
       ·rw [if_pos F] at H;have W:=decide_eq_true F;clear F;replace H:=zdd H;rcases H with ⟨G,H⟩ | ⟨G,H⟩
        ·obtain rfl:=Option.some.inj H;have g:0≤(a:Int):=zD;have j:a < (c.size:Int):=zD;have E:=bt_at c a;replace g:=eq_true g;replace j:=eq_true j;go_wp2;go_ret;exact ⟨zE,zDr⟩
        ·by_cases m:(bt c a)=47
         ·rw [if_pos m] at H;have I:=beq_iff_eq.mpr m;have J:=bne_eq_false_iff_eq.mpr m;clear m;obtain rfl:=Option.some.inj H;have g:0≤(a:Int):=zD;have j:a < (c.size:Int):=zD;have E:=bt_at c a;replace g:=eq_true g;replace j:=eq_true j;have p:0≤(a:Int):=zD;have q:a < (c.size:Int):=zD;have Q:=bt_at c a;replace p:=eq_true p;replace q:=eq_true q;go_wp2;go_ret;exact ⟨zE,zDr⟩
         ·rw [if_neg m] at H;have I:=beq_eq_false_iff_ne.mpr m;have J:=bne_iff_ne.mpr m;have H':=Aside0.mk H;clear H;have g:0≤(a:Int):=zD;have j:a < (c.size:Int):=zD;have E:=bt_at c a;replace g:=eq_true g;replace j:=eq_true j;have p:0≤(a:Int):=zD;have q:a < (c.size:Int):=zD;have Q:=bt_at c a;replace p:=eq_true p;replace q:=eq_true q;go_wp2;go_roundg k2
          case measure=>have:=L.out;have:=M.out;omega
          case rel=>exact ⟨(wrap64 (a+1)),zE,H',⟨by have:=L.out;have:=M.out;omega⟩,zDr⟩
       ·rw [if_neg F] at H;exact absurd H (by simp)
      ·obtain rfl:=Option.some.inj H;go_wp2;go_ret;exact ⟨zE,zDr⟩
end Go.Proofs.YtninnmdpnoebaaaGreatDoor.PRa
end
section
namespace Go.Proofs.YtninnmdpnoebaaaGreatDoor.PRa
open Go.Proofs.YtninnmdpnoebaaaGreatDoor.Sq Go.Proofs.YtninnmdpnoebaaaGreatDoor.Hand Go.RowKit Go.Proofs.YtninnmdpnoebaaaGreatDoorW.PrintWords Go.Proofs.YtninnmdpnoebaaaGreatDoorW.PrintLast Go.Proofs.YtninnmdpnoebaaaGreatDoorW.PrintMore
attribute [local go_sem] max2_int min2_int max_two min_two max_three min_three max_four min_four
set_option linter.unusedVariables false
set_option linter.unusedSimpArgs false
mutual
def g06Is.j0:Nat→List ByteArray→Bool→Option (Bool)
 | 0,_,_=>none
 | k+1,a,d=>if d=true then (some false) else (g06Is.l0 k a 0)
def g06Is.l0:Nat→List ByteArray→Int→Option (Bool)
 | 0,_,_=>none
 | k+1,a,b=>if b < (a.length:Int) then (if 0≤b then ((g06part.f k (rdOf ByteArray.empty a b)).bind fun c=>(if c=true then (g06Is.l0 k a (wrap64 (b+1))) else (some false))) else (none)) else (some true)
end
def g06Is.f (k:Nat) (b:ByteArray):Option (Bool):=(g06Parts.f k b).bind fun a=>(if (a.length:Int) < 1 then (g06Is.j0 k a true) else (if (a.length:Int) > 16 then (g06Is.j0 k a true) else (g06Is.j0 k a (decide ((b.size:Int) > 255)))))
set_option maxHeartbeats 8000000 in
set_option maxRecDepth 100000 in
theorem g06Is.calls (k:Nat) (p:ByteArray) (r:Bool) (w:World) (h:g06Is.f k p=some r) :
  Calls Tryz.prog 51 #[.string p] w fun e w'=>e=.returned (.bool r)∧Below w.heap.size w w':=by
 have HB:=Aside0.mk (Below.refl w.heap.size w);have H:((g06Parts.f k p).bind fun a=>(if (a.length:Int) < 1 then (g06Is.j0 k a true) else (if (a.length:Int) > 16 then (g06Is.j0 k a true) else (g06Is.j0 k a (decide ((p.size:Int) > 255))))))=some r:=h;clear h;replace H:=zbd H;obtain ⟨a,A2,H⟩:=H;have A:=Aside0.mk H;clear H;go_enter Tryz.func51,Tryz.ntmps51;go_upto_region 2 with (first | ((with_reducible refine zgc 55 ?_);refine zGL 6 Tryz.func55 #[.string p] ?_;(with_reducible refine (g06Parts.calls k p a _ A2.out).mono ?_);rintro e w4 ⟨B,rfl,G,hb⟩;refine ⟨_,rfl,?_⟩;have d:=Aside0.mk (Kd.R_lower G (below_size zB));replace HB:=zbs HB hb;clear hb G));(try simp only [Act.put,List.setIfInBounds_toArray,List.set_cons_zero,List.set_cons_succ]);go_cut [19] (fun U wc=>∃ (kq:Nat) (m:Bool),U=.bool m∧Aside0 (g06Is.j0 kq a m=some r)∧Aside0 (kq≤k)∧Aside0 (Kd.R Kd.string 9 wc w.heap.size (fun _=>True) B a)∧Aside0 (Below w.heap.size w wc))
 case first =>
  have H:=A.out;clear A;replace H:=zdg H;rcases H with ⟨C,g,H⟩ | ⟨C,g,H⟩
  ·have q:decide (a.length < 1)=true:=decide_eq_true (by omega);clear C;(first | rw [g] | (simp only [i64_w,i32_w];rw [g]) | skip);have H':=Aside0.mk H;clear H;obtain ⟨aj,ak,V⟩:=Kd.R_slice d.out;subst V;go_wp2;go_meet
   case rel=>exact ⟨_,(true),zE,H',⟨by first | omega | exact Nat.le_refl _⟩,⟨(zR d)⟩,⟨zB⟩⟩
  ·have q:decide (a.length < 1)=false:=decide_eq_false (by omega);clear C;(first | rw [g] | (simp only [i64_w,i32_w];rw [g]) | skip);replace H:=zdg H;rcases H with ⟨D,s,H⟩ | ⟨D,s,H⟩
   ·have t:decide (16 < a.length)=true:=decide_eq_true (by omega);clear D;have H':=Aside0.mk H;clear H;obtain ⟨al,am,W⟩:=Kd.R_slice d.out;subst W;go_wp2;go_meet
    case rel=>exact ⟨_,(true),zE,H',⟨by first | omega | exact Nat.le_refl _⟩,⟨(zR d)⟩,⟨zB⟩⟩
   ·have t:decide (16 < a.length)=false:=decide_eq_false (by omega);clear D;have H':=Aside0.mk H;clear H;obtain ⟨an,ao,X⟩:=Kd.R_slice d.out;subst X;go_wp2;go_meet
    case rel=>exact ⟨_,(decide ((p.size:Int) > 255)),zE,H',⟨by first | omega | exact Nat.le_refl _⟩,⟨(zR d)⟩,⟨zB⟩⟩
 case rest =>
  clear A;obtain ⟨kq,m,rfl,HA,I,c,HB⟩:=hcut;cases kq with
  | zero=>exact absurd HA.out (by simp [g06Is.j0])
  | succ kj2 =>
   have H:=HA.out;clear HA;simp only [g06Is.j0] at H;by_cases o:m=true
   ·subst o;have H1:(some false)=some r:=by rw [if_pos rfl] at H;exact H
    clear H;have H:=H1;clear H1;obtain rfl:=Option.some.inj H;go_wp2;go_ret;exact ⟨zW,zB⟩
   ·replace o:=Bool.eq_false_iff.mpr o;subst o;have H1:(g06Is.l0 kj2 a 0)=some r:=by rw [if_neg (show ¬ (false=true) by decide)] at H;exact H
    clear H;have H:=H1;clear H1;have H':=Aside0.mk H;clear H;go_wp2;go_loopg [4] kj2 (fun kq v4 w'=>∃ (b:Int),v4=.int .i64 b∧Aside0 (g06Is.l0 kq a b=some r)∧Aside0 (kq≤kj2)∧Aside0 (Kd.R Kd.string 9 w' w.heap.size (fun _=>True) B a)∧Aside0 (Below w.heap.size w w'))
    case atStart=>exact ⟨(0),zE,H',⟨Nat.le_refl _⟩,⟨(zR c)⟩,⟨zB⟩⟩
    case round =>
     clear H';obtain ⟨b,rfl,HA,J,c,HB⟩:=hrel;cases gk with
     | zero=>exact absurd HA.out (by simp [g06Is.l0])
     | succ k2 =>
      have H:=HA.out;clear HA;simp only [g06Is.l0] at H;replace H:=zdd H;rcases H with ⟨E,H⟩ | ⟨E,H⟩
      ·by_cases x:0≤b
       ·rw [if_pos x] at H;have Z:=decide_eq_true x;clear x;replace H:=zbd H;obtain ⟨M,L,H⟩:=H;by_cases y:M=true
        ·subst y;have H1:(g06Is.l0 k2 a (wrap64 (b+1)))=some r:=by rw [if_pos rfl] at H;exact H
         clear H;have H:=H1;clear H1;have H':=Aside0.mk H;clear H;obtain ⟨ac,ad,O⟩:=Kd.R_slice c.out;subst O;have j:0≤(b:Int):=zD;have l:b < (a.length:Int):=zD;obtain ⟨F,u,z⟩:=Kd.at_string (Kd.R_reads' c.out).2.2 b j l;cases u;replace j:=eq_true j;replace l:=eq_true l;go_wp2_with (first | ((with_reducible refine zgc 82 ?_);refine zGL 30 Tryz.func82 #[.string (rdOf ByteArray.empty a b)] ?_;(with_reducible refine (g06part.calls k2 (rdOf ByteArray.empty a b) true _ L.out).mono ?_);rintro e w' ⟨rfl,⟨nd,rfl⟩⟩;refine ⟨_,rfl,?_⟩));go_roundg k2
         case measure=>have:=I.out;have:=J.out;omega
         case rel=>exact ⟨(wrap64 (b+1)),zE,H',⟨by have:=I.out;have:=J.out;omega⟩,⟨(zR c)⟩,⟨zB⟩⟩
        ·replace y:=Bool.eq_false_iff.mpr y;subst y;have H1:(some false)=some r:=by rw [if_neg (show ¬ (false=true) by decide)] at H;exact H
         clear H;have H:=H1;clear H1;obtain rfl:=Option.some.inj H;obtain ⟨ae,af,Q⟩:=Kd.R_slice c.out;subst Q;have j:0≤(b:Int):=zD;have l:b < (a.length:Int):=zD;obtain ⟨F,u,z⟩:=Kd.at_string (Kd.R_reads' c.out).2.2 b j l;cases u;replace j:=eq_true j;replace l:=eq_true l;go_wp2_with (first | ((with_reducible refine zgc 82 ?_);refine zGL 30 Tryz.func82 #[.string (rdOf ByteArray.empty a b)] ?_;(with_reducible refine (g06part.calls k2 (rdOf ByteArray.empty a b) false _ L.out).mono ?_);rintro e w' ⟨rfl,⟨nd,rfl⟩⟩;refine ⟨_,rfl,?_⟩));go_ret;exact ⟨zW,zB⟩
       ·rw [if_neg x] at H;exact absurd H (by simp)
      ·obtain rfl:=Option.some.inj H;obtain ⟨ag,ah,T⟩:=Kd.R_slice c.out;subst T;go_wp2;go_ret;exact ⟨zW,zB⟩
def g02Digit.j0:Nat→Int→Bool→Option (Int)
 | 0,_,_=>none
 | k+1,a,b=>if b=true then (some ((a - 48) % 256)) else (if a≥97 then (if a≤102 then (some (((a - 97) % 256)+10)) else (some (-1))) else (some (-1)))
def g02Digit.f (k:Nat) (a:Int):Option (Int):=if a≥48 then (g02Digit.j0 k a (decide (a≤57))) else (g02Digit.j0 k a false)
set_option maxHeartbeats 8000000 in
set_option maxRecDepth 100000 in
theorem g02Digit.calls (k:Nat) (a:Int) (r:Int) (w:World) (h:g02Digit.f k a=some r) :
  Calls Tryz.prog 105 #[.int .u8 a] w fun e w'=>e=.returned (.int .i64 r)∧Drawn0 w w':=by
 have H:(if a≥48 then (g02Digit.j0 k a (decide (a≤57))) else (g02Digit.j0 k a false))=some r:=h;clear h;have g:=Aside0.mk H;clear H;go_enter Tryz.func105,Tryz.ntmps105;go_upto_region 1 with (fail);go_cut [8] (fun o wc=>∃ (kq:Nat) (c:Bool),o=.bool c∧Aside0 (g02Digit.j0 kq a c=some r)∧Aside0 (kq≤k)∧Drawn0 w wc)
 case first =>
  have H:=g.out;clear g;replace H:=zdd H;rcases H with ⟨b,H⟩ | ⟨b,H⟩
  ·(first | rw [b] | (simp only [i64_w,i32_w];rw [b]) | skip);have H':=Aside0.mk H;clear H;go_wp2;go_meet
   case rel=>exact ⟨_,(decide (a≤57)),zE,H',⟨by first | omega | exact Nat.le_refl _⟩,zDr⟩
  ·(first | rw [b] | (simp only [i64_w,i32_w];rw [b]) | skip);have H':=Aside0.mk H;clear H;go_wp2;go_meet
   case rel=>exact ⟨_,(false),zE,H',⟨by first | omega | exact Nat.le_refl _⟩,zDr⟩
 case rest =>
  clear g;obtain ⟨kq,c,rfl,HA,p,⟨mc1,rfl⟩⟩:=hcut;cases kq with
  | zero=>exact absurd HA.out (by simp [g02Digit.j0])
  | succ kj1 =>
   have H:=HA.out;clear HA;simp only [g02Digit.j0] at H;by_cases j:c=true
   ·subst j;have H1:(some ((a - 48) % 256))=some r:=by rw [if_pos rfl] at H;exact H
    clear H;have H:=H1;clear H1;obtain rfl:=Option.some.inj H;go_wp2;go_ret;exact ⟨zE,zDr⟩
   ·replace j:=Bool.eq_false_iff.mpr j;subst j;have H1:(if a≥97 then (if a≤102 then (some (((a - 97) % 256)+10)) else (some (-1))) else (some (-1)))=some r:=by rw [if_neg (show ¬ (false=true) by decide)] at H;exact H
    clear H;have H:=H1;clear H1;replace H:=zdd H;rcases H with ⟨l,H⟩ | ⟨l,H⟩
    ·by_cases d:a≤102
     ·rw [if_pos d] at H;have m:=decide_eq_true d;clear d;obtain rfl:=Option.some.inj H;go_wp2;go_ret;exact ⟨zE,zDr⟩
     ·rw [if_neg d] at H;have m:=decide_eq_false d;clear d;obtain rfl:=Option.some.inj H;go_wp2;go_ret;exact ⟨zE,zDr⟩
    ·obtain rfl:=Option.some.inj H;go_wp2;go_ret;exact ⟨zE,zDr⟩
def g02digits.l0:Nat→ByteArray→Int→Option (Bool)
 | 0,_,_=>none
 | k+1,b,a=>if a < (b.size:Int) then (if 0≤a then ((g02Digit.f k (bt b a)).bind fun c=>(if c < 0 then (some false) else (g02digits.l0 k b (wrap64 (a+1))))) else (none)) else (some true)
def g02digits.f (k:Nat) (a:ByteArray):Option (Bool):=g02digits.l0 k a 0
set_option maxHeartbeats 8000000 in
set_option maxRecDepth 100000 in
theorem g02digits.calls (k:Nat) (b:ByteArray) (r:Bool) (w:World) (h:g02digits.f k b=some r) :
  Calls Tryz.prog 83 #[.string b] w fun e w'=>e=.returned (.bool r)∧Drawn0 w w':=by
 have H:(g02digits.l0 k b 0)=some r:=h;clear h;have H':=Aside0.mk H;clear H;go_enter Tryz.func83,Tryz.ntmps83;go_wp2;go_loopg [3] k (fun kq s w'=>∃ (a:Int),s=.int .i64 a∧Aside0 (g02digits.l0 kq b a=some r)∧Aside0 (kq≤k)∧Drawn0 w w')
 case atStart=>exact ⟨(0),zE,H',⟨Nat.le_refl _⟩,zDr⟩
 case round =>
  clear H';obtain ⟨a,rfl,HA,l,⟨u,rfl⟩⟩:=hrel;cases gk with
  | zero=>exact absurd HA.out (by simp [g02digits.l0])
  | succ k1 =>
   have H:=HA.out;clear HA;simp only [g02digits.l0] at H;replace H:=zdd H;rcases H with ⟨m,H⟩ | ⟨m,H⟩
   ·by_cases j:0≤a
    ·rw [if_pos j] at H;have t:=decide_eq_true j;clear j;replace H:=zbd H;obtain ⟨c,p,H⟩:=H;replace H:=zdd H;rcases H with ⟨o,H⟩ | ⟨o,H⟩
     ·obtain rfl:=Option.some.inj H;have d:0≤(a:Int):=zD;have g:a < (b.size:Int):=zD;have q:=bt_at b a;replace d:=eq_true d;replace g:=eq_true g;go_wp2_with (first | ((with_reducible refine zgc 105 ?_);refine zGL 13 Tryz.func105 #[.int .u8 (bt b a)] ?_;(with_reducible refine (g02Digit.calls k1 (bt b a) c _ p.out).mono ?_);rintro e w' ⟨rfl,⟨nd,rfl⟩⟩;refine ⟨_,rfl,?_⟩));go_ret;exact ⟨zE,zDr⟩
     ·have H':=Aside0.mk H;clear H;have d:0≤(a:Int):=zD;have g:a < (b.size:Int):=zD;have q:=bt_at b a;replace d:=eq_true d;replace g:=eq_true g;go_wp2_with (first | ((with_reducible refine zgc 105 ?_);refine zGL 13 Tryz.func105 #[.int .u8 (bt b a)] ?_;(with_reducible refine (g02Digit.calls k1 (bt b a) c _ p.out).mono ?_);rintro e w' ⟨rfl,⟨nd,rfl⟩⟩;refine ⟨_,rfl,?_⟩));go_roundg k1
      case measure=>have:=l.out;omega
      case rel=>exact ⟨(wrap64 (a+1)),zE,H',⟨by have:=l.out;omega⟩,zDr⟩
    ·rw [if_neg j] at H;exact absurd H (by simp)
   ·obtain rfl:=Option.some.inj H;go_wp2;go_ret;exact ⟨zE,zDr⟩
def g02Is.f (k:Nat) (b:ByteArray):Option (Bool):=if (b.size:Int)=40 then ((g02digits.f k b).bind fun a=>(some a)) else (some false)
set_option maxHeartbeats 8000000 in
set_option maxRecDepth 100000 in
theorem g02Is.calls (k:Nat) (b:ByteArray) (r:Bool) (w:World) (h:g02Is.f k b=some r) :
  Calls Tryz.prog 52 #[.string b] w fun e w'=>e=.returned (.bool r)∧Drawn0 w w':=by
 have H:(if (b.size:Int)=40 then ((g02digits.f k b).bind fun a=>(some a)) else (some false))=some r:=h;clear h;replace H:=zbb H;rcases H with ⟨c,d,H⟩ | ⟨j,c,d,H⟩
 ·replace H:=zbd H;obtain ⟨a,g,H⟩:=H;obtain rfl:=Option.some.inj H;go_enter Tryz.func52,Tryz.ntmps52;go_wp2_with (first | (go_at_call 83;(with_reducible refine (g02digits.calls k b a _ g.out).mono ?_);rintro e w' ⟨rfl,⟨nd,rfl⟩⟩));go_ret;exact ⟨zE,zDr⟩
 ·obtain rfl:=Option.some.inj H;go_enter Tryz.func52,Tryz.ntmps52;go_wp2;go_ret;exact ⟨zE,zDr⟩
def g15May.f (k:Nat) (a:Int) (b:ByteArray) (c:ByteArray):Option (Bool):=if a≥1 then (if a≤4 then ((g06Is.f k b).bind fun d=>(if d=true then ((g14Find.f k b 47 0).bind fun e=>(if e < 0 then ((g02Is.f k c).bind fun g=>(some g)) else (some false))) else (some false))) else (some false)) else (some false)
set_option maxHeartbeats 8000000 in
set_option maxRecDepth 100000 in
theorem g15May.calls (k:Nat) (c:Int) (b:ByteArray) (d:ByteArray) (r:Bool) (w:World) (h:g15May.f k c b d=some r) :
  Calls Tryz.prog 97 #[.agg #[.int .i64 c,.string b,.string d]] w fun e w'=>e=.returned (.bool r)∧Below w.heap.size w w':=by
 have B:=Tryz.underlying110;have HB:=Aside0.mk (Below.refl w.heap.size w);have H:(if c≥1 then (if c≤4 then ((g06Is.f k b).bind fun p=>(if p=true then ((g14Find.f k b 47 0).bind fun g=>(if g < 0 then ((g02Is.f k d).bind fun o=>(some o)) else (some false))) else (some false))) else (some false)) else (some false))=some r:=h;clear h;replace H:=zdd H;rcases H with ⟨u,H⟩ | ⟨u,H⟩
 ·by_cases q:c≤4
  ·rw [if_pos q] at H;have x:=decide_eq_true q;clear q;replace H:=zbd H;obtain ⟨p,y,H⟩:=H;by_cases s:p=true
   ·subst s;have H1:((g14Find.f k b 47 0).bind fun g=>(if g < 0 then ((g02Is.f k d).bind fun o=>(some o)) else (some false)))=some r:=by rw [if_pos rfl] at H;exact H
    clear H;have H:=H1;clear H1;replace H:=zbd H;obtain ⟨g,A,H⟩:=H;replace H:=zdd H;rcases H with ⟨z,H⟩ | ⟨z,H⟩
    ·replace H:=zbd H;obtain ⟨o,C,H⟩:=H;obtain rfl:=Option.some.inj H;go_enter Tryz.func97,Tryz.ntmps97;go_wp2_with (first | ((with_reducible refine zgd 1 ?_);refine zBx 1 #[.int .i64 c,.string b,.string d] 110 ?_;intro j hg W hbox hb;have a:=Aside0.mk (hbox);have l:=zGE HB hg;have m:=zGE HB hg;replace HB:=zbs HB hb;clear hb hbox hg;have D:=zF3 a) | (go_at_call 51;(with_reducible refine (g06Is.calls k b true _ y.out).mono ?_);rintro e M ⟨rfl,hb⟩;replace a:=zkb a hb;replace HB:=zbs HB hb;clear hb;have E:=zF3 a) | (go_at_call 96;(with_reducible refine (g14Find.calls k b 47 0 g _ A.out).mono ?_);rintro e w' ⟨rfl,⟨nd,rfl⟩⟩) | (go_at_call 52;(with_reducible refine (g02Is.calls k d o _ C.out).mono ?_);rintro e w' ⟨rfl,⟨nd,rfl⟩⟩));go_ret;exact ⟨zW,zB⟩
    ·obtain rfl:=Option.some.inj H;go_enter Tryz.func97,Tryz.ntmps97;go_wp2_with (first | ((with_reducible refine zgd 1 ?_);refine zBx 1 #[.int .i64 c,.string b,.string d] 110 ?_;intro j hg O hbox hb;have a:=Aside0.mk (hbox);have l:=zGE HB hg;have m:=zGE HB hg;replace HB:=zbs HB hb;clear hb hbox hg;have F:=zF3 a) | (go_at_call 51;(with_reducible refine (g06Is.calls k b true _ y.out).mono ?_);rintro e Q ⟨rfl,hb⟩;replace a:=zkb a hb;replace HB:=zbs HB hb;clear hb;have G:=zF3 a) | (go_at_call 96;(with_reducible refine (g14Find.calls k b 47 0 g _ A.out).mono ?_);rintro e w' ⟨rfl,⟨nd,rfl⟩⟩));go_ret;exact ⟨zW,zB⟩
   ·replace s:=Bool.eq_false_iff.mpr s;subst s;have H1:(some false)=some r:=by rw [if_neg (show ¬ (false=true) by decide)] at H;exact H
    clear H;have H:=H1;clear H1;obtain rfl:=Option.some.inj H;go_enter Tryz.func97,Tryz.ntmps97;go_wp2_with (first | ((with_reducible refine zgd 1 ?_);refine zBx 1 #[.int .i64 c,.string b,.string d] 110 ?_;intro j hg R hbox hb;have a:=Aside0.mk (hbox);have l:=zGE HB hg;have m:=zGE HB hg;replace HB:=zbs HB hb;clear hb hbox hg;have I:=zF3 a) | (go_at_call 51;(with_reducible refine (g06Is.calls k b false _ y.out).mono ?_);rintro e T ⟨rfl,hb⟩;replace a:=zkb a hb;replace HB:=zbs HB hb;clear hb));go_ret;exact ⟨zW,zB⟩
  ·rw [if_neg q] at H;have x:=decide_eq_false q;clear q;obtain rfl:=Option.some.inj H;go_enter Tryz.func97,Tryz.ntmps97;go_wp2_with (first | ((with_reducible refine zgd 1 ?_);refine zBx 1 #[.int .i64 c,.string b,.string d] 110 ?_;intro j hg U hbox hb;have a:=Aside0.mk (hbox);have l:=zGE HB hg;have m:=zGE HB hg;replace HB:=zbs HB hb;clear hb hbox hg;have J:=zF3 a));go_ret;exact ⟨zW,zB⟩
 ·obtain rfl:=Option.some.inj H;go_enter Tryz.func97,Tryz.ntmps97;go_wp2_with (first | ((with_reducible refine zgd 1 ?_);refine zBx 1 #[.int .i64 c,.string b,.string d] 110 ?_;intro j hg V hbox hb;have a:=Aside0.mk (hbox);have l:=zGE HB hg;have m:=zGE HB hg;replace HB:=zbs HB hb;clear hb hbox hg;have L:=zF3 a));go_ret;exact ⟨zW,zB⟩
def g15key.f (b:Int) (a:ByteArray) (c:ByteArray):Option (ByteArray):=if b=4 then (if a.size+1≤9223372036854775807 then (some (a++(⟨#[47]⟩:ByteArray))) else (none)) else (some a)
set_option maxHeartbeats 8000000 in
set_option maxRecDepth 100000 in
theorem g15key.calls (b:Int) (a:ByteArray) (c:ByteArray) (r:ByteArray) (w:World) (h:g15key.f b a c=some r) :
  Calls Tryz.prog 126 #[.agg #[.int .i64 b,.string a,.string c]] w fun e w'=>e=.returned (.string r)∧Below w.heap.size w w':=by
 have q:=Tryz.underlying110;have HB:=Aside0.mk (Below.refl w.heap.size w);have H:(if b=4 then (if a.size+1≤9223372036854775807 then (some (a++(⟨#[47]⟩:ByteArray))) else (none)) else (some a))=some r:=h;clear h;replace H:=zbb H;rcases H with ⟨o,p,H⟩ | ⟨z,o,p,H⟩
 ·by_cases g:a.size+1≤9223372036854775807
  ·rw [if_pos g] at H;have s:=eq_true g;have t:=decide_eq_true g;(try have u:(9223372036854775807 < a.size+1)=False:=eq_false (Nat.not_lt.2 g));obtain rfl:=Option.some.inj H;go_enter Tryz.func126,Tryz.ntmps126;go_wp2_with (first | ((with_reducible refine zgd 1 ?_);refine zBx 1 #[.int .i64 b,.string a,.string c] 110 ?_;intro j hg A hbox hb;have d:=Aside0.mk (hbox);have l:=zGE HB hg;have m:=zGE HB hg;replace HB:=zbs HB hb;clear hb hbox hg;have x:=zF3 d));go_ret;exact ⟨zW,zB⟩
  ·rw [if_neg g] at H;exact absurd H (by simp)
 ·obtain rfl:=Option.some.inj H;go_enter Tryz.func126,Tryz.ntmps126;go_wp2_with (first | ((with_reducible refine zgd 1 ?_);refine zBx 1 #[.int .i64 b,.string a,.string c] 110 ?_;intro j hg B hbox hb;have d:=Aside0.mk (hbox);have l:=zGE HB hg;have m:=zGE HB hg;replace HB:=zbs HB hb;clear hb hbox hg;have y:=zF3 d));go_ret;exact ⟨zW,zB⟩
def g15Less.f (a:Int) (b:ByteArray) (c:ByteArray) (d:Int) (e:ByteArray) (g:ByteArray):Option (Bool):=(g15key.f a b c).bind fun h=>((g15key.f d e g).bind fun j=>(some (Op.bytesLess h.toList j.toList)))
set_option maxHeartbeats 8000000 in
set_option maxRecDepth 100000 in
theorem g15Less.calls (c:Int) (d:ByteArray) (g:ByteArray) (j:Int) (l:ByteArray) (m:ByteArray) (r:Bool) (w:World) (h:g15Less.f c d g j l m=some r) :
  Calls Tryz.prog 98 #[.agg #[.int .i64 c,.string d,.string g],.agg #[.int .i64 j,.string l,.string m]] w fun e w'=>e=.returned (.bool r)∧Below w.heap.size w w':=by
 have y:=Tryz.underlying110;have HB:=Aside0.mk (Below.refl w.heap.size w);have H:((g15key.f c d g).bind fun q=>((g15key.f j l m).bind fun s=>(some (Op.bytesLess q.toList s.toList))))=some r:=h;clear h;replace H:=zbd H;obtain ⟨q,D,H⟩:=H;replace H:=zbd H;obtain ⟨s,E,H⟩:=H;obtain rfl:=Option.some.inj H;go_enter Tryz.func98,Tryz.ntmps98;(try go_wp2_with (first | ((with_reducible refine zgd 2 ?_);refine zBx 2 #[.int .i64 c,.string d,.string g] 110 ?_;intro o hg O hbox hb;have a:=Aside0.mk (hbox);have z:=zGE HB hg;have A:=zGE HB hg;replace HB:=zbs HB hb;clear hb hbox hg) | ((with_reducible refine zgd 3 ?_);refine zBx 3 #[.int .i64 j,.string l,.string m] 110 ?_;intro p hg F hbox hb;have b:=Aside0.mk (hbox);have B:=zGE HB hg;have C:=zGE HB hg;replace HB:=zbs HB hb;have t:=zNl a hg;have u:=zNg a hg;replace a:=zkb a hb;clear hb hbox hg)));replace a:=Aside0.mk (blk_drew a.out);replace b:=Aside0.mk (blk_drew b.out);replace HB:=Aside0.mk (below_drew1 HB.out);refine start_ (n:=6) (S:=fun w'=>w'.cell? ⟨o,0,none⟩=some (.int .i64 c)∧w'.cell? ⟨o,1,none⟩=some (.string d)∧w'.cell? ⟨o,2,none⟩=some (.string g)∧w'.cell? ⟨p,0,none⟩=some (.int .i64 j)∧w'.cell? ⟨p,1,none⟩=some (.string l)∧w'.cell? ⟨p,2,none⟩=some (.string m)) (ds:=[]) (bm 6 0) (by kernel_rfl) rfl rfl ⟨(blk_cell a.out 0).trans rfl,(blk_cell a.out 1).trans rfl,(blk_cell a.out 2).trans rfl,(blk_cell b.out 0).trans rfl,(blk_cell b.out 1).trans rfl,(blk_cell b.out 2).trans rfl⟩ (fun hHeld=>?_);generalize F.drew=Q at a b HB hHeld ⊢;refine take_ (i:=0) (N:=some 5) (v:=?_) (a':=?_) (bm 6 1) rfl rfl (by kernel_rfl) (fun _ _ _ h=>h) (Or.inl ⟨by rfl,?_⟩) hHeld ?_ ?_;rotate_left
 ·rintro w' ⟨G,I,s2,J,L,M⟩;go_simp;(with_reducible rfl)
 rotate_left
 ·simp only [Act.put,List.setIfInBounds_toArray,List.set_cons_zero,List.set_cons_succ,i64_w,i32_w];rfl
 refine take_ (i:=2) (N:=some 7) (v:=?_) (a':=?_) (bm 6 5) rfl rfl (by kernel_rfl) (fun _ _ _ h=>h) (Or.inl ⟨by rfl,?_⟩) hHeld ?_ ?_;rotate_left
 ·rintro w' ⟨G,I,s2,J,L,M⟩;go_simp;(with_reducible rfl)
 rotate_left
 ·simp only [Act.put,List.setIfInBounds_toArray,List.set_cons_zero,List.set_cons_succ,i64_w,i32_w];rfl
 refine one_ (i:=1) (N:=some 6) (bm 6 7) rfl rfl (by kernel_rfl) (by decide) (fun K hK=>?_);refine zGo Tryz.func126 #[.agg #[.int .i64 c,.string d,.string g]] ?_;(with_reducible refine (g15key.calls c d g q _ D.out).mono ?_);rintro e R ⟨rfl,hb⟩;refine ⟨_,rfl,?_⟩;replace a:=zkb a hb;replace b:=zkb b hb;replace HB:=zbs HB hb;clear hb;refine hK.out _ _ ⟨(blk_cell a.out 0).trans rfl,(blk_cell a.out 1).trans rfl,(blk_cell a.out 2).trans rfl,(blk_cell b.out 0).trans rfl,(blk_cell b.out 1).trans rfl,(blk_cell b.out 2).trans rfl⟩ (fun hHeld=>?_);clear hK K;refine norm_ (a':=?_) ?_ ?_;rotate_left
 ·show Act.put _ (some 6) _=_;simp only [Act.put,List.setIfInBounds_toArray,List.set_cons_zero,List.set_cons_succ,i64_w,i32_w];rfl
 refine one_ (i:=3) (N:=some 8) (bm 6 15) rfl rfl (by kernel_rfl) (by decide) (fun K hK=>?_);refine zGo Tryz.func126 #[.agg #[.int .i64 j,.string l,.string m]] ?_;(with_reducible refine (g15key.calls j l m s _ E.out).mono ?_);rintro e T ⟨rfl,hb⟩;refine ⟨_,rfl,?_⟩;replace a:=zkb a hb;replace b:=zkb b hb;replace HB:=zbs HB hb;clear hb;refine hK.out _ _ ⟨(blk_cell a.out 0).trans rfl,(blk_cell a.out 1).trans rfl,(blk_cell a.out 2).trans rfl,(blk_cell b.out 0).trans rfl,(blk_cell b.out 1).trans rfl,(blk_cell b.out 2).trans rfl⟩ (fun hHeld=>?_);clear hK K;refine norm_ (a':=?_) ?_ ?_;rotate_left
 ·show Act.put _ (some 8) _=_;simp only [Act.put,List.setIfInBounds_toArray,List.set_cons_zero,List.set_cons_succ,i64_w,i32_w];rfl
 refine pure_ (i:=4) (N:=some 9) (v:=?_) (a':=?_) (bm 6 31) rfl rfl (by kernel_rfl) (fun _ _ _ h=>h) (Or.inl ⟨by rfl,?_⟩) ?_ ?_;rotate_left
 ·intro w';go_simp;(with_reducible rfl)
 rotate_left
 ·simp only [Act.put,List.setIfInBounds_toArray,List.set_cons_zero,List.set_cons_succ,i64_w,i32_w];rfl
 refine pure_ (i:=5) (N:=some 4) (v:=?_) (a':=?_) (bm 6 63) rfl rfl (by kernel_rfl) (fun _ _ _ h=>h) (Or.inl ⟨by rfl,?_⟩) ?_ ?_;rotate_left
 ·intro w';go_simp;(with_reducible rfl)
 rotate_left
 ·simp only [Act.put,List.setIfInBounds_toArray,List.set_cons_zero,List.set_cons_succ,i64_w,i32_w];rfl
 refine done_ (by kernel_rfl) ?_;(try go_wp2);go_ret;exact ⟨zW,zB⟩
end Go.Proofs.YtninnmdpnoebaaaGreatDoor.PRa
end
section
namespace Go.Proofs.YtninnmdpnoebaaaGreatDoor.PRa
open Go.Proofs.YtninnmdpnoebaaaGreatDoor.Sq Go.Proofs.YtninnmdpnoebaaaGreatDoor.Hand Go.RowKit Go.Proofs.YtninnmdpnoebaaaGreatDoorW.PrintWords Go.Proofs.YtninnmdpnoebaaaGreatDoorW.PrintLast Go.Proofs.YtninnmdpnoebaaaGreatDoorW.PrintMore
attribute [local go_sem] max2_int min2_int max_two min_two max_three min_three max_four min_four
set_option linter.unusedVariables false
set_option linter.unusedSimpArgs false
mutual
def g16named.j0:Nat→ByteArray→Bool→Option (Bool)
 | 0,_,_=>none
 | k+1,a,c=>if c=true then (some false) else (g16named.l0 k a 0)
def g16named.l0:Nat→ByteArray→Int→Option (Bool)
 | 0,_,_=>none
 | k+1,a,b=>if b < (a.size:Int) then (if 0≤b then (if (bt a b) < 32 then (some false) else (if (bt a b)=60 then (some false) else (if (bt a b)=62 then (some false) else (g16named.l0 k a (wrap64 (b+1)))))) else (none)) else (some true)
end
def g16named.f (k:Nat) (a:ByteArray):Option (Bool):=if (a.size:Int) < 1 then (g16named.j0 k a true) else (if (a.size:Int) > 64 then (g16named.j0 k a true) else (if 0 < (a.size:Int) then (if (bt a 0)=32 then (g16named.j0 k a true) else (if 0≤(wrap64 ((a.size:Int) - 1)) then (if (wrap64 ((a.size:Int) - 1)) < (a.size:Int) then (g16named.j0 k a ((bt a (wrap64 ((a.size:Int) - 1))) == 32)) else (none)) else (none))) else (none)))
set_option maxHeartbeats 8000000 in
set_option maxRecDepth 100000 in
theorem g16named.calls (k:Nat) (b:ByteArray) (r:Bool) (w:World) (h:g16named.f k b=some r) :
  Calls Tryz.prog 86 #[.string b] w fun e w'=>e=.returned (.bool r)∧Drawn0 w w':=by
 have H:(if (b.size:Int) < 1 then (g16named.j0 k b true) else (if (b.size:Int) > 64 then (g16named.j0 k b true) else (if 0 < (b.size:Int) then (if (bt b 0)=32 then (g16named.j0 k b true) else (if 0≤(wrap64 ((b.size:Int) - 1)) then (if (wrap64 ((b.size:Int) - 1)) < (b.size:Int) then (g16named.j0 k b ((bt b (wrap64 ((b.size:Int) - 1))) == 32)) else (none)) else (none))) else (none))))=some r:=h;clear h;have G:=Aside0.mk H;clear H;go_enter Tryz.func86,Tryz.ntmps86;go_upto_region 1 with (fail);go_cut [24] (fun ad wc=>∃ (kq:Nat) (m:Bool),ad=.bool m∧Aside0 (g16named.j0 kq b m=some r)∧Aside0 (kq≤k)∧Drawn0 w wc)
 case first =>
  have H:=G.out;clear G;replace H:=zdg H;rcases H with ⟨I,g,H⟩ | ⟨I,g,H⟩
  ·have v:decide (b.size < 1)=true:=decide_eq_true (by omega);clear I;(first | rw [g] | (simp only [i64_w,i32_w];rw [g]) | skip);have H':=Aside0.mk H;clear H;go_wp2;go_meet
   case rel=>exact ⟨_,(true),zE,H',⟨by first | omega | exact Nat.le_refl _⟩,zDr⟩
  ·have v:decide (b.size < 1)=false:=decide_eq_false (by omega);clear I;(first | rw [g] | (simp only [i64_w,i32_w];rw [g]) | skip);replace H:=zdg H;rcases H with ⟨J,x,H⟩ | ⟨J,x,H⟩
   ·have y:decide (64 < b.size)=true:=decide_eq_true (by omega);clear J;have H':=Aside0.mk H;clear H;go_wp2;go_meet
    case rel=>exact ⟨_,(true),zE,H',⟨by first | omega | exact Nat.le_refl _⟩,zDr⟩
   ·have y:decide (64 < b.size)=false:=decide_eq_false (by omega);clear J;replace H:=zgn H;obtain ⟨c5,L,H⟩:=H;have M:decide (0 < b.size)=true:=decide_eq_true (by omega);clear c5;replace H:=zbb H;rcases H with ⟨z,A,H⟩ | ⟨c7,z,A,H⟩
    ·have H':=Aside0.mk H;clear H;have B:0≤(0:Int):=(by omega);have q:0 < b.size:=(by have:(0:Int) < (b.size:Int):=zD;omega);have N:∀ h:0 < b.size,((b[0]'h).toNat:Int)=bt b 0:=bt_at b 0;clear B;have qi6:(0 < (b.size:Int))=True:=eq_true (zD);replace q:=eq_true q;go_wp2;go_meet
     case rel=>exact ⟨_,(true),zE,H',⟨by first | omega | exact Nat.le_refl _⟩,zDr⟩
    ·obtain ⟨i,C⟩:=zj (α:=Int) (wrap64 ((b.size:Int) - 1));replace H:(if 0≤(i) then (if (i) < (b.size:Int) then (g16named.j0 k b ((bt b (i)) == 32)) else (none)) else (none))=some r:=zJ C H;have ak:(IntKind.i64.wrap ((b.size:Int) - 1))=i:=(i64_w _).trans C;replace H:=zdn H;obtain ⟨O,H⟩:=H;replace H:=zdn H;obtain ⟨E,H⟩:=H;have H':=Aside0.mk H;clear H;have B:0≤(0:Int):=(by omega);have q:0 < b.size:=(by have:(0:Int) < (b.size:Int):=zD;omega);have N:∀ h:0 < b.size,((b[0]'h).toNat:Int)=bt b 0:=bt_at b 0;clear B;have qi6:(0 < (b.size:Int))=True:=eq_true (zD);replace q:=eq_true q;have o:0≤((i):Int):=zD;have p:(i) < (b.size:Int):=zD;have Q:=bt_at b (i);replace o:=eq_true o;replace p:=eq_true p;go_wp2;go_meet
     case rel=>exact ⟨_,(((bt b (i)) == 32)),(by first | rfl | (simp;done) | (simp only [← C]<;>(first | rfl | simp)) | (simp [*];done)),H',⟨by first | omega | exact Nat.le_refl _⟩,zDr⟩
 case rest =>
  clear G;obtain ⟨kq,m,rfl,HA,Z,⟨mc1,rfl⟩⟩:=hcut;cases kq with
  | zero=>exact absurd HA.out (by simp [g16named.j0])
  | succ kj1 =>
   have H:=HA.out;clear HA;simp only [g16named.j0] at H;by_cases s:m=true
   ·subst s;have H1:(some false)=some r:=by rw [if_pos rfl] at H;exact H
    clear H;have H:=H1;clear H1;obtain rfl:=Option.some.inj H;go_wp2;go_ret;exact ⟨zE,zDr⟩
   ·replace s:=Bool.eq_false_iff.mpr s;subst s;have H1:(g16named.l0 kj1 b 0)=some r:=by rw [if_neg (show ¬ (false=true) by decide)] at H;exact H
    clear H;have H:=H1;clear H1;have H':=Aside0.mk H;clear H;go_wp2;go_loopg [3] kj1 (fun kq v3 w'=>∃ (a:Int),v3=.int .i64 a∧Aside0 (g16named.l0 kq b a=some r)∧Aside0 (kq≤kj1)∧Drawn0 w w')
    case atStart=>exact ⟨(0),zE,H',⟨Nat.le_refl _⟩,zDr⟩
    case round =>
     clear H';obtain ⟨a,rfl,HA,aa,⟨m2,rfl⟩⟩:=hrel;cases gk with
     | zero=>exact absurd HA.out (by simp [g16named.l0])
     | succ k2 =>
      have H:=HA.out;clear HA;simp only [g16named.l0] at H;replace H:=zdd H;rcases H with ⟨T,H⟩ | ⟨T,H⟩
      ·by_cases F:0≤a
       ·rw [if_pos F] at H;have al:=decide_eq_true F;clear F;replace H:=zdd H;rcases H with ⟨U,H⟩ | ⟨U,H⟩
        ·obtain rfl:=Option.some.inj H;have c:0≤(a:Int):=zD;have d:a < (b.size:Int):=zD;have D:=bt_at b a;replace c:=eq_true c;replace d:=eq_true d;go_wp2;go_ret;exact ⟨zE,zDr⟩
        ·by_cases n:(bt b a)=60
         ·rw [if_pos n] at H;have V:=beq_iff_eq.mpr n;have W:=bne_eq_false_iff_eq.mpr n;clear n;obtain rfl:=Option.some.inj H;have c:0≤(a:Int):=zD;have d:a < (b.size:Int):=zD;have D:=bt_at b a;replace c:=eq_true c;replace d:=eq_true d;have j:0≤(a:Int):=zD;have l:a < (b.size:Int):=zD;have R:=bt_at b a;replace j:=eq_true j;replace l:=eq_true l;go_wp2;go_ret;exact ⟨zE,zDr⟩
         ·rw [if_neg n] at H;have V:=beq_eq_false_iff_ne.mpr n;have W:=bne_iff_ne.mpr n;replace H:=zbb H;rcases H with ⟨X,Y,H⟩ | ⟨aq,X,Y,H⟩
          ·obtain rfl:=Option.some.inj H;have c:0≤(a:Int):=zD;have d:a < (b.size:Int):=zD;have D:=bt_at b a;replace c:=eq_true c;replace d:=eq_true d;have j:0≤(a:Int):=zD;have l:a < (b.size:Int):=zD;have R:=bt_at b a;replace j:=eq_true j;replace l:=eq_true l;have t:0≤(a:Int):=zD;have u:a < (b.size:Int):=zD;have ac:=bt_at b a;replace t:=eq_true t;replace u:=eq_true u;go_wp2;go_ret;exact ⟨zE,zDr⟩
          ·have H':=Aside0.mk H;clear H;have c:0≤(a:Int):=zD;have d:a < (b.size:Int):=zD;have D:=bt_at b a;replace c:=eq_true c;replace d:=eq_true d;have j:0≤(a:Int):=zD;have l:a < (b.size:Int):=zD;have R:=bt_at b a;replace j:=eq_true j;replace l:=eq_true l;have t:0≤(a:Int):=zD;have u:a < (b.size:Int):=zD;have ac:=bt_at b a;replace t:=eq_true t;replace u:=eq_true u;go_wp2;go_roundg k2
           case measure=>have:=Z.out;have:=aa.out;omega
           case rel=>exact ⟨(wrap64 (a+1)),zE,H',⟨by have:=Z.out;have:=aa.out;omega⟩,zDr⟩
       ·rw [if_neg F] at H;exact absurd H (by simp)
      ·obtain rfl:=Option.some.inj H;go_wp2;go_ret;exact ⟨zE,zDr⟩
def g16Person.f (k:Nat) (c:ByteArray) (d:ByteArray) (a:Int) (b:Int):Option (Bool):=(g16named.f k c).bind fun e=>(if e=true then ((g16named.f k d).bind fun g=>(if g=true then (if a≥0 then (if a≤1099511627776 then (if b≥(-840) then (some (decide (b≤840))) else (some false)) else (some false)) else (some false)) else (some false))) else (some false))
set_option maxHeartbeats 8000000 in
set_option maxRecDepth 100000 in
theorem g16Person.calls (k:Nat) (a:ByteArray) (b:ByteArray) (c:Int) (d:Int) (r:Bool) (w:World) (h:g16Person.f k a b c d=some r) :
  Calls Tryz.prog 59 #[.agg #[.string a,.string b,.int .i64 c,.int .i64 d]] w fun e w'=>e=.returned (.bool r)∧Below w.heap.size w w':=by
 have y:=Tryz.underlying51;have HB:=Aside0.mk (Below.refl w.heap.size w);have H:((g16named.f k a).bind fun n=>(if n=true then ((g16named.f k b).bind fun m=>(if m=true then (if c≥0 then (if c≤1099511627776 then (if d≥(-840) then (some (decide (d≤840))) else (some false)) else (some false)) else (some false)) else (some false))) else (some false)))=some r:=h;clear h;replace H:=zbd H;obtain ⟨n,o,H⟩:=H;by_cases s:n=true
 ·subst s;have H1:((g16named.f k b).bind fun m=>(if m=true then (if c≥0 then (if c≤1099511627776 then (if d≥(-840) then (some (decide (d≤840))) else (some false)) else (some false)) else (some false)) else (some false)))=some r:=by rw [if_pos rfl] at H;exact H
  clear H;have H:=H1;clear H1;replace H:=zbd H;obtain ⟨m,q,H⟩:=H;by_cases t:m=true
  ·subst t;have H1:(if c≥0 then (if c≤1099511627776 then (if d≥(-840) then (some (decide (d≤840))) else (some false)) else (some false)) else (some false))=some r:=by rw [if_pos rfl] at H;exact H
   clear H;have H:=H1;clear H1;replace H:=zdd H;rcases H with ⟨u,H⟩ | ⟨u,H⟩
   ·by_cases p:c≤1099511627776
    ·rw [if_pos p] at H;have v:=decide_eq_true p;clear p;replace H:=zdd H;rcases H with ⟨x,H⟩ | ⟨x,H⟩
     ·obtain rfl:=Option.some.inj H;go_enter Tryz.func59,Tryz.ntmps59;go_wp2_with (first | ((with_reducible refine zgd 1 ?_);refine zBx 1 #[.string a,.string b,.int .i64 c,.int .i64 d] 51 ?_;intro i hg M hbox hb;have g:=Aside0.mk (hbox);have j:=zGE HB hg;have l:=zGE HB hg;replace HB:=zbs HB hb;clear hb hbox hg;have z:=zF4 g) | ((with_reducible refine zgc 86 ?_);refine zGL 5 Tryz.func86 #[.string a] ?_;(with_reducible refine (g16named.calls k a true _ o.out).mono ?_);rintro e w' ⟨rfl,⟨nd,rfl⟩⟩;refine ⟨_,rfl,?_⟩) | (go_at_call 86;(with_reducible refine (g16named.calls k b true _ q.out).mono ?_);rintro e w' ⟨rfl,⟨nd,rfl⟩⟩));go_ret;exact ⟨zW,zB⟩
     ·obtain rfl:=Option.some.inj H;go_enter Tryz.func59,Tryz.ntmps59;go_wp2_with (first | ((with_reducible refine zgd 1 ?_);refine zBx 1 #[.string a,.string b,.int .i64 c,.int .i64 d] 51 ?_;intro i hg F hbox hb;have g:=Aside0.mk (hbox);have j:=zGE HB hg;have l:=zGE HB hg;replace HB:=zbs HB hb;clear hb hbox hg;have A:=zF4 g) | ((with_reducible refine zgc 86 ?_);refine zGL 5 Tryz.func86 #[.string a] ?_;(with_reducible refine (g16named.calls k a true _ o.out).mono ?_);rintro e w' ⟨rfl,⟨nd,rfl⟩⟩;refine ⟨_,rfl,?_⟩) | (go_at_call 86;(with_reducible refine (g16named.calls k b true _ q.out).mono ?_);rintro e w' ⟨rfl,⟨nd,rfl⟩⟩));go_ret;exact ⟨zW,zB⟩
    ·rw [if_neg p] at H;have v:=decide_eq_false p;clear p;obtain rfl:=Option.some.inj H;go_enter Tryz.func59,Tryz.ntmps59;go_wp2_with (first | ((with_reducible refine zgd 1 ?_);refine zBx 1 #[.string a,.string b,.int .i64 c,.int .i64 d] 51 ?_;intro i hg G hbox hb;have g:=Aside0.mk (hbox);have j:=zGE HB hg;have l:=zGE HB hg;replace HB:=zbs HB hb;clear hb hbox hg;have B:=zF4 g) | ((with_reducible refine zgc 86 ?_);refine zGL 5 Tryz.func86 #[.string a] ?_;(with_reducible refine (g16named.calls k a true _ o.out).mono ?_);rintro e w' ⟨rfl,⟨nd,rfl⟩⟩;refine ⟨_,rfl,?_⟩) | (go_at_call 86;(with_reducible refine (g16named.calls k b true _ q.out).mono ?_);rintro e w' ⟨rfl,⟨nd,rfl⟩⟩));go_ret;exact ⟨zW,zB⟩
   ·obtain rfl:=Option.some.inj H;go_enter Tryz.func59,Tryz.ntmps59;go_wp2_with (first | ((with_reducible refine zgd 1 ?_);refine zBx 1 #[.string a,.string b,.int .i64 c,.int .i64 d] 51 ?_;intro i hg I hbox hb;have g:=Aside0.mk (hbox);have j:=zGE HB hg;have l:=zGE HB hg;replace HB:=zbs HB hb;clear hb hbox hg;have C:=zF4 g) | ((with_reducible refine zgc 86 ?_);refine zGL 5 Tryz.func86 #[.string a] ?_;(with_reducible refine (g16named.calls k a true _ o.out).mono ?_);rintro e w' ⟨rfl,⟨nd,rfl⟩⟩;refine ⟨_,rfl,?_⟩) | (go_at_call 86;(with_reducible refine (g16named.calls k b true _ q.out).mono ?_);rintro e w' ⟨rfl,⟨nd,rfl⟩⟩));go_ret;exact ⟨zW,zB⟩
  ·replace t:=Bool.eq_false_iff.mpr t;subst t;have H1:(some false)=some r:=by rw [if_neg (show ¬ (false=true) by decide)] at H;exact H
   clear H;have H:=H1;clear H1;obtain rfl:=Option.some.inj H;go_enter Tryz.func59,Tryz.ntmps59;go_wp2_with (first | ((with_reducible refine zgd 1 ?_);refine zBx 1 #[.string a,.string b,.int .i64 c,.int .i64 d] 51 ?_;intro i hg J hbox hb;have g:=Aside0.mk (hbox);have j:=zGE HB hg;have l:=zGE HB hg;replace HB:=zbs HB hb;clear hb hbox hg;have D:=zF4 g) | ((with_reducible refine zgc 86 ?_);refine zGL 5 Tryz.func86 #[.string a] ?_;(with_reducible refine (g16named.calls k a true _ o.out).mono ?_);rintro e w' ⟨rfl,⟨nd,rfl⟩⟩;refine ⟨_,rfl,?_⟩) | (go_at_call 86;(with_reducible refine (g16named.calls k b false _ q.out).mono ?_);rintro e w' ⟨rfl,⟨nd,rfl⟩⟩));go_ret;exact ⟨zW,zB⟩
 ·replace s:=Bool.eq_false_iff.mpr s;subst s;have H1:(some false)=some r:=by rw [if_neg (show ¬ (false=true) by decide)] at H;exact H
  clear H;have H:=H1;clear H1;obtain rfl:=Option.some.inj H;go_enter Tryz.func59,Tryz.ntmps59;go_wp2_with (first | ((with_reducible refine zgd 1 ?_);refine zBx 1 #[.string a,.string b,.int .i64 c,.int .i64 d] 51 ?_;intro i hg L hbox hb;have g:=Aside0.mk (hbox);have j:=zGE HB hg;have l:=zGE HB hg;replace HB:=zbs HB hb;clear hb hbox hg;have E:=zF4 g) | ((with_reducible refine zgc 86 ?_);refine zGL 5 Tryz.func86 #[.string a] ?_;(with_reducible refine (g16named.calls k a false _ o.out).mono ?_);rintro e w' ⟨rfl,⟨nd,rfl⟩⟩;refine ⟨_,rfl,?_⟩));go_ret;exact ⟨zW,zB⟩
def g16zero.l0:Nat→ByteArray→Int→Option (Bool)
 | 0,_,_=>none
 | k+1,b,a=>if a < (b.size:Int) then (if 0≤a then (if (bt b a)=0 then (some true) else (g16zero.l0 k b (wrap64 (a+1)))) else (none)) else (some false)
def g16zero.f (k:Nat) (a:ByteArray):Option (Bool):=g16zero.l0 k a 0
set_option maxHeartbeats 8000000 in
set_option maxRecDepth 100000 in
theorem g16zero.calls (k:Nat) (b:ByteArray) (r:Bool) (w:World) (h:g16zero.f k b=some r) :
  Calls Tryz.prog 60 #[.string b] w fun e w'=>e=.returned (.bool r)∧Drawn0 w w':=by
 have H:(g16zero.l0 k b 0)=some r:=h;clear h;have H':=Aside0.mk H;clear H;go_enter Tryz.func60,Tryz.ntmps60;go_wp2;go_loopg [3] k (fun kq o w'=>∃ (a:Int),o=.int .i64 a∧Aside0 (g16zero.l0 kq b a=some r)∧Aside0 (kq≤k)∧Drawn0 w w')
 case atStart=>exact ⟨(0),zE,H',⟨Nat.le_refl _⟩,zDr⟩
 case round =>
  clear H';obtain ⟨a,rfl,HA,i,⟨q,rfl⟩⟩:=hrel;cases gk with
  | zero=>exact absurd HA.out (by simp [g16zero.l0])
  | succ k1 =>
   have H:=HA.out;clear HA;simp only [g16zero.l0] at H;replace H:=zdd H;rcases H with ⟨j,H⟩ | ⟨j,H⟩
   ·by_cases g:0≤a
    ·rw [if_pos g] at H;have p:=decide_eq_true g;clear g;replace H:=zbb H;rcases H with ⟨l,m,H⟩ | ⟨s,l,m,H⟩
     ·obtain rfl:=Option.some.inj H;have c:0≤(a:Int):=zD;have d:a < (b.size:Int):=zD;have n:=bt_at b a;replace c:=eq_true c;replace d:=eq_true d;go_wp2;go_ret;exact ⟨zE,zDr⟩
     ·have H':=Aside0.mk H;clear H;have c:0≤(a:Int):=zD;have d:a < (b.size:Int):=zD;have n:=bt_at b a;replace c:=eq_true c;replace d:=eq_true d;go_wp2;go_roundg k1
      case measure=>have:=i.out;omega
      case rel=>exact ⟨(wrap64 (a+1)),zE,H',⟨by have:=i.out;omega⟩,zDr⟩
    ·rw [if_neg g] at H;exact absurd H (by simp)
   ·obtain rfl:=Option.some.inj H;go_wp2;go_ret;exact ⟨zE,zDr⟩
end Go.Proofs.YtninnmdpnoebaaaGreatDoor.PRa
end
section
namespace Go.Proofs.YtninnmdpnoebaaaGreatDoor.PRa
open Go.Proofs.YtninnmdpnoebaaaGreatDoor.Sq Go.Proofs.YtninnmdpnoebaaaGreatDoor.Hand Go.RowKit Go.Proofs.YtninnmdpnoebaaaGreatDoorW.PrintWords Go.Proofs.YtninnmdpnoebaaaGreatDoorW.PrintLast Go.Proofs.YtninnmdpnoebaaaGreatDoorW.PrintMore
attribute [local go_sem] max2_int min2_int max_two min_two max_three min_three max_four min_four
set_option linter.unusedVariables false
set_option linter.unusedSimpArgs false
mutual
def g16Check.j0:Nat→Bool→ByteArray→List ByteArray→ByteArray→ByteArray→Int→Int→ByteArray→ByteArray→Int→Int→ByteArray→Option (Int)
 | 0,_,_,_,_,_,_,_,_,_,_,_,_=>none
 | k+1,q,c,a,d,e,g,h,i,j,l,m,b=>g16Check.l0 k q 0 c a d e g h i j l m b
def g16Check.l0:Nat→Bool→Int→ByteArray→List ByteArray→ByteArray→ByteArray→Int→Int→ByteArray→ByteArray→Int→Int→ByteArray→Option (Int)
 | 0,_,_,_,_,_,_,_,_,_,_,_,_,_=>none
 | k+1,q,o,c,a,d,e,g,h,i,j,l,m,b=>if o < (a.length:Int) then (if q=true then (g16Check.l0 k true (wrap64 (o+1)) c a d e g h i j l m b) else (if 0≤o then ((g02Is.f k (rdOf ByteArray.empty a o)).bind fun r=>(g16Check.l0 k (!r) (wrap64 (o+1)) c a d e g h i j l m b)) else (none))) else (if q=true then (some 1) else (if (b.size:Int) > 4096 then (g16Check.j2 k true c a d e g h i j l m b) else (g16Check.j2 k (decide ((a.length:Int) > 8)) c a d e g h i j l m b)))
def g16Check.j2:Nat→Bool→ByteArray→List ByteArray→ByteArray→ByteArray→Int→Int→ByteArray→ByteArray→Int→Int→ByteArray→Option (Int)
 | 0,_,_,_,_,_,_,_,_,_,_,_,_=>none
 | k+1,s,c,a,d,e,g,h,i,j,l,m,b=>if s=true then (some 4) else (g16Check.l1 k 0 c a d e g h i j l m b)
def g16Check.l1:Nat→Int→ByteArray→List ByteArray→ByteArray→ByteArray→Int→Int→ByteArray→ByteArray→Int→Int→ByteArray→Option (Int)
 | 0,_,_,_,_,_,_,_,_,_,_,_,_=>none
 | k+1,n,c,a,d,e,g,h,i,j,l,m,b=>if n < (a.length:Int) then (g16Check.l2 k n 0 c a d e g h i j l m b) else (some 0)
def g16Check.l2:Nat→Int→Int→ByteArray→List ByteArray→ByteArray→ByteArray→Int→Int→ByteArray→ByteArray→Int→Int→ByteArray→Option (Int)
 | 0,_,_,_,_,_,_,_,_,_,_,_,_,_=>none
 | k+1,n,p,c,a,d,e,g,h,i,j,l,m,b=>if p < n then (if 0≤n then (if n < (a.length:Int) then (if 0≤p then (if p < (a.length:Int) then (if (rdOf ByteArray.empty a n).toList=(rdOf ByteArray.empty a p).toList then (some 6) else (g16Check.l2 k n (wrap64 (p+1)) c a d e g h i j l m b)) else (none)) else (none)) else (none)) else (none)) else (g16Check.l1 k (wrap64 (n+1)) c a d e g h i j l m b)
end
def g16Check.f (k:Nat) (b:ByteArray) (m:List ByteArray) (c:ByteArray) (d:ByteArray) (e:Int) (g:Int) (h:ByteArray) (i:ByteArray) (j:Int) (l:Int) (a:ByteArray):Option (Int):=(g02Is.f k b).bind fun n=>(if n=true then ((g16Person.f k c d e g).bind fun o=>(if o=true then ((g16Person.f k h i j l).bind fun p=>(if p=true then ((g16zero.f k a).bind fun q=>(g16Check.j0 k q b m c d e g h i j l a)) else (g16Check.j0 k true b m c d e g h i j l a))) else (g16Check.j0 k true b m c d e g h i j l a))) else (g16Check.j0 k true b m c d e g h i j l a))
set_option maxHeartbeats 8000000 in
set_option maxRecDepth 100000 in
theorem g16Check.calls (k:Nat) (d:ByteArray) (A:Option Addr) (B:Nat) (c:List ByteArray) (g:ByteArray) (i:ByteArray) (j:Int) (l:Int) (m:ByteArray) (n:ByteArray) (o:Int) (p:Int) (b:ByteArray) (r:Int) (w:World) (aE:Kd.C Kd.string w A c.length c) (aF:c.length≤B) (h:g16Check.f k d c g i j l m n o p b=some r) :
  Calls Tryz.prog 34 #[.agg #[.string d,.slice A c.length B,.string g,.string i,.int .i64 j,.int .i64 l,.string m,.string n,.int .i64 o,.int .i64 p,.string b]] w fun e w'=>e=.returned (.int .i64 r)∧Below w.heap.size w w':=by
 have bh:=Tryz.underlying57;have bi:=Tryz.underlying51;have M:=Aside0.mk aE;have a9:=Aside0.mk aF;clear aE aF;have HB:=Aside0.mk (Below.refl w.heap.size w);have H:((g02Is.f k d).bind fun au=>(if au=true then ((g16Person.f k g i j l).bind fun V=>(if V=true then ((g16Person.f k m n o p).bind fun F=>(if F=true then ((g16zero.f k b).bind fun u=>(g16Check.j0 k u d c g i j l m n o p b)) else (g16Check.j0 k true d c g i j l m n o p b))) else (g16Check.j0 k true d c g i j l m n o p b))) else (g16Check.j0 k true d c g i j l m n o p b)))=some r:=h;clear h;have aN:=Aside0.mk H;clear H;go_enter Tryz.func34,Tryz.ntmps34;go_upto_region 1 with (first | ((with_reducible refine zgd 1 ?_);(try (refine gate_guard (by rfl) ?_;dsimp only));refine zBx 1 #[.string d,.slice A c.length B,.string g,.string i,.int .i64 j,.int .i64 l,.string m,.string n,.int .i64 o,.int .i64 p,.string b] 57 ?_;intro N hg w3 hbox hb;have a:=Aside0.mk (hbox);have ba:=zGE HB hg;have bb:=zGE HB hg;replace HB:=zbs HB hb;clear hb hbox hg));(try simp only [Act.put,List.setIfInBounds_toArray,List.set_cons_zero,List.set_cons_succ]);go_cut [3] (fun v3 wc=>∃ (kq:Nat) (ai:Bool),v3=.bool ai∧Aside0 (g16Check.j0 kq ai d c g i j l m n o p b=some r)∧Aside0 (kq≤k)∧Aside0 (wc.heap[N]? = some (.cells #[.string d,(.slice A c.length B),.string g,.string i,.int .i64 j,.int .i64 l,.string m,.string n,.int .i64 o,.int .i64 p,.string b] 57 (0,0)))∧Aside0 (Below w.heap.size w wc))
 case first =>
  have H:=aN.out;clear aN;replace H:=zbd H;obtain ⟨au,A4,H⟩:=H;by_cases c5:au=true
  ·subst c5;have H1:((g16Person.f k g i j l).bind fun V=>(if V=true then ((g16Person.f k m n o p).bind fun F=>(if F=true then ((g16zero.f k b).bind fun u=>(g16Check.j0 k u d c g i j l m n o p b)) else (g16Check.j0 k true d c g i j l m n o p b))) else (g16Check.j0 k true d c g i j l m n o p b)))=some r:=by rw [if_pos rfl] at H;exact H
   clear H;have H:=H1;clear H1;replace H:=zbd H;obtain ⟨V,A6,H⟩:=H;by_cases c7:V=true
   ·subst c7;have H1:((g16Person.f k m n o p).bind fun F=>(if F=true then ((g16zero.f k b).bind fun u=>(g16Check.j0 k u d c g i j l m n o p b)) else (g16Check.j0 k true d c g i j l m n o p b)))=some r:=by rw [if_pos rfl] at H;exact H
    clear H;have H:=H1;clear H1;replace H:=zbd H;obtain ⟨F,A8,H⟩:=H;by_cases c9:F=true
    ·subst c9;have H1:((g16zero.f k b).bind fun u=>(g16Check.j0 k u d c g i j l m n o p b))=some r:=by rw [if_pos rfl] at H;exact H
     clear H;have H:=H1;clear H1;replace H:=zbd H;obtain ⟨u,a5,H⟩:=H;have H':=Aside0.mk H;clear H;have W:=zF11 a;go_wp2_with (first | (go_at_call 52;(with_reducible refine (g02Is.calls k d true _ A4.out).mono ?_);rintro e w' ⟨rfl,⟨nd,rfl⟩⟩;(try first | exact ⟨rfl,_,World.drewN_drewN _ _ _⟩ | exact ⟨rfl,_,Eq.trans (World.drewN_drewN _ _ _) (congrArg (World.drewN _) (Nat.add_assoc _ _ _))⟩)) | (go_at_call 59;(with_reducible refine (g16Person.calls k g i j l true _ A6.out).mono ?_);rintro e bp ⟨rfl,hb⟩;replace a:=zkb a hb;replace HB:=zbs HB hb;clear hb;have X:=zF11 a) | (go_at_call 59;(with_reducible refine (g16Person.calls k m n o p true _ A8.out).mono ?_);rintro e bq ⟨rfl,hb⟩;replace a:=zkb a hb;replace HB:=zbs HB hb;clear hb;have Y:=zF11 a) | (go_at_call 60;(with_reducible refine (g16zero.calls k b u _ a5.out).mono ?_);rintro e w' ⟨rfl,⟨nd,rfl⟩⟩;(try first | exact ⟨rfl,_,World.drewN_drewN _ _ _⟩ | exact ⟨rfl,_,Eq.trans (World.drewN_drewN _ _ _) (congrArg (World.drewN _) (Nat.add_assoc _ _ _))⟩)));go_meet
     case rel=>exact ⟨_,(u),zE,H',⟨by first | omega | exact Nat.le_refl _⟩,⟨(zb a)⟩,⟨zB⟩⟩
    ·replace c9:=Bool.eq_false_iff.mpr c9;subst c9;have H1:(g16Check.j0 k true d c g i j l m n o p b)=some r:=by rw [if_neg (show ¬ (false=true) by decide)] at H;exact H
     clear H;have H:=H1;clear H1;have H':=Aside0.mk H;clear H;have Z:=zF11 a;go_wp2_with (first | (go_at_call 52;(with_reducible refine (g02Is.calls k d true _ A4.out).mono ?_);rintro e w' ⟨rfl,⟨nd,rfl⟩⟩;(try first | exact ⟨rfl,_,World.drewN_drewN _ _ _⟩ | exact ⟨rfl,_,Eq.trans (World.drewN_drewN _ _ _) (congrArg (World.drewN _) (Nat.add_assoc _ _ _))⟩)) | (go_at_call 59;(with_reducible refine (g16Person.calls k g i j l true _ A6.out).mono ?_);rintro e br ⟨rfl,hb⟩;replace a:=zkb a hb;replace HB:=zbs HB hb;clear hb;have aa:=zF11 a) | (go_at_call 59;(with_reducible refine (g16Person.calls k m n o p false _ A8.out).mono ?_);rintro e bs ⟨rfl,hb⟩;replace a:=zkb a hb;replace HB:=zbs HB hb;clear hb));go_meet
     case rel=>exact ⟨_,(true),zE,H',⟨by first | omega | exact Nat.le_refl _⟩,⟨(zb a)⟩,⟨zB⟩⟩
   ·replace c7:=Bool.eq_false_iff.mpr c7;subst c7;have H1:(g16Check.j0 k true d c g i j l m n o p b)=some r:=by rw [if_neg (show ¬ (false=true) by decide)] at H;exact H
    clear H;have H:=H1;clear H1;have H':=Aside0.mk H;clear H;have ab:=zF11 a;go_wp2_with (first | (go_at_call 52;(with_reducible refine (g02Is.calls k d true _ A4.out).mono ?_);rintro e w' ⟨rfl,⟨nd,rfl⟩⟩;(try first | exact ⟨rfl,_,World.drewN_drewN _ _ _⟩ | exact ⟨rfl,_,Eq.trans (World.drewN_drewN _ _ _) (congrArg (World.drewN _) (Nat.add_assoc _ _ _))⟩)) | (go_at_call 59;(with_reducible refine (g16Person.calls k g i j l false _ A6.out).mono ?_);rintro e bt ⟨rfl,hb⟩;replace a:=zkb a hb;replace HB:=zbs HB hb;clear hb));go_meet
    case rel=>exact ⟨_,(true),zE,H',⟨by first | omega | exact Nat.le_refl _⟩,⟨(zb a)⟩,⟨zB⟩⟩
  ·replace c5:=Bool.eq_false_iff.mpr c5;subst c5;have H1:(g16Check.j0 k true d c g i j l m n o p b)=some r:=by rw [if_neg (show ¬ (false=true) by decide)] at H;exact H
   clear H;have H:=H1;clear H1;have H':=Aside0.mk H;clear H;have ac:=zF11 a;go_wp2_with (first | (go_at_call 52;(with_reducible refine (g02Is.calls k d false _ A4.out).mono ?_);rintro e w' ⟨rfl,⟨nd,rfl⟩⟩;(try first | exact ⟨rfl,_,World.drewN_drewN _ _ _⟩ | exact ⟨rfl,_,Eq.trans (World.drewN_drewN _ _ _) (congrArg (World.drewN _) (Nat.add_assoc _ _ _))⟩)));go_meet
   case rel=>exact ⟨_,(true),zE,H',⟨by first | omega | exact Nat.le_refl _⟩,⟨(zb a)⟩,⟨zB⟩⟩
 case rest =>
  clear aN;obtain ⟨kq,ai,rfl,HA,D,a,HB⟩:=hcut;cases kq with
  | zero=>exact absurd HA.out (by simp [g16Check.j0])
  | succ kj1 =>
   have H:=HA.out;clear HA;simp only [g16Check.j0] at H;have H':=Aside0.mk H;clear H;go_wp2;go_loopg [3,4] kj1 (fun kq v3 v4 w'=>∃ (ad:Bool) (q:Int),v3=.bool ad∧v4=.int .i64 q∧Aside0 (g16Check.l0 kq ad q d c g i j l m n o p b=some r)∧Aside0 (kq≤kj1)∧Aside0 (w'.heap[N]? = some (.cells #[.string d,(.slice A c.length B),.string g,.string i,.int .i64 j,.int .i64 l,.string m,.string n,.int .i64 o,.int .i64 p,.string b] 57 (0,0)))∧Aside0 (Below w.heap.size w w'))
   case atStart=>exact ⟨(ai),(0),zE,zE,H',⟨Nat.le_refl _⟩,⟨(zb a)⟩,⟨zB⟩⟩
   case round =>
    clear H';obtain ⟨ad,q,rfl,rfl,HA,E,a,HB⟩:=hrel;cases gk with
    | zero=>exact absurd HA.out (by simp [g16Check.l0])
    | succ k2 =>
     have H:=HA.out;clear HA;simp only [g16Check.l0] at H;replace H:=zdd H;rcases H with ⟨T,H⟩ | ⟨T,H⟩
     ·by_cases ae:ad=true
      ·subst ae;have H1:(g16Check.l0 k2 true (wrap64 (q+1)) d c g i j l m n o p b)=some r:=by rw [if_pos rfl] at H;exact H
       clear H;have H:=H1;clear H1;have H':=Aside0.mk H;clear H;have av:=zF11 a;go_wp2;go_roundg k2
       case measure=>have:=D.out;have:=E.out;omega
       case rel=>exact ⟨(true),(wrap64 (q+1)),zE,zE,H',⟨by have:=D.out;have:=E.out;omega⟩,⟨(zb a)⟩,⟨zB⟩⟩
      ·replace ae:=Bool.eq_false_iff.mpr ae;subst ae;have H1:(if 0≤q then ((g02Is.f k2 (rdOf ByteArray.empty c q)).bind fun am=>(g16Check.l0 k2 (!am) (wrap64 (q+1)) d c g i j l m n o p b)) else (none))=some r:=by rw [if_neg (show ¬ (false=true) by decide)] at H;exact H
       clear H;have H:=H1;clear H1;replace H:=zdn H;obtain ⟨an,H⟩:=H;replace H:=zbd H;obtain ⟨am,a6,H⟩:=H;have H':=Aside0.mk H;clear H;have aw:=zF11 a;have Q:0≤(q:Int):=zD;have R:q < (c.length:Int):=zD;obtain ⟨bc,a2,x⟩:=Kd.at_string M.out q Q R;cases a2;replace x:=zC x;replace Q:=eq_true Q;replace R:=eq_true R;go_wp2_with (first | (go_at_call 52;(with_reducible refine (g02Is.calls k2 (rdOf ByteArray.empty c q) am _ a6.out).mono ?_);rintro e w' ⟨rfl,⟨nd,rfl⟩⟩;(try first | exact ⟨rfl,_,World.drewN_drewN _ _ _⟩ | exact ⟨rfl,_,Eq.trans (World.drewN_drewN _ _ _) (congrArg (World.drewN _) (Nat.add_assoc _ _ _))⟩)));go_roundg k2
       case measure=>have:=D.out;have:=E.out;omega
       case rel=>exact ⟨(!am),(wrap64 (q+1)),zE,zE,H',⟨by have:=D.out;have:=E.out;omega⟩,⟨(zb a)⟩,⟨zB⟩⟩
     ·by_cases af:ad=true
      ·subst af;have H1:(some 1)=some r:=by rw [if_pos rfl] at H;exact H
       clear H;have H:=H1;clear H1;obtain rfl:=Option.some.inj H;have ax:=zF11 a;go_wp2;go_ret;exact ⟨zW,zB⟩
      ·replace af:=Bool.eq_false_iff.mpr af;subst af;have H1:(if (b.size:Int) > 4096 then (g16Check.j2 k2 true d c g i j l m n o p b) else (g16Check.j2 k2 (decide ((c.length:Int) > 8)) d c g i j l m n o p b))=some r:=by rw [if_neg (show ¬ (false=true) by decide)] at H;exact H
       clear H;have H:=H1;clear H1;have ay:=Aside0.mk H;clear H;have az:=zF11 a;go_upto_region 8 with (fail);go_cut [55] (fun a7 wc=>∃ (kq:Nat) (O:Bool),a7=.bool O∧Aside0 (g16Check.j2 kq O d c g i j l m n o p b=some r)∧Aside0 (kq≤k2)∧Aside0 (wc.heap[N]? = some (.cells #[.string d,(.slice A c.length B),.string g,.string i,.int .i64 j,.int .i64 l,.string m,.string n,.int .i64 o,.int .i64 p,.string b] 57 (0,0)))∧Aside0 (Below w.heap.size w wc))
       case first =>
        have H:=ay.out;clear ay;replace H:=zdg H;rcases H with ⟨ag,t,H⟩ | ⟨ag,t,H⟩
        ·have U:decide (4096 < b.size)=true:=decide_eq_true (by omega);clear ag;(first | rw [t] | (simp only [i64_w,i32_w];rw [t]) | skip);have H':=Aside0.mk H;clear H;have aA:=zF11 a;go_wp2;go_meet
         case rel=>exact ⟨_,(true),zE,H',⟨by have:=D.out;have:=E.out;first | omega | exact Nat.le_refl _⟩,⟨(zb a)⟩,⟨zB⟩⟩
        ·have U:decide (4096 < b.size)=false:=decide_eq_false (by omega);clear ag;(first | rw [t] | (simp only [i64_w,i32_w];rw [t]) | skip);have H':=Aside0.mk H;clear H;have aB:=zF11 a;go_wp2;go_meet
         case rel=>exact ⟨_,(decide ((c.length:Int) > 8)),zE,H',⟨by have:=D.out;have:=E.out;first | omega | exact Nat.le_refl _⟩,⟨(zb a)⟩,⟨zB⟩⟩
       case rest =>
        clear ay T az;obtain ⟨kq,O,rfl,HA,ao,a,HB⟩:=hcut;cases kq with
        | zero=>exact absurd HA.out (by simp [g16Check.j2])
        | succ kj30 =>
         have H:=HA.out;clear HA;simp only [g16Check.j2] at H;by_cases ah:O=true
         ·subst ah;have H1:(some 4)=some r:=by rw [if_pos rfl] at H;exact H
          clear H;have H:=H1;clear H1;obtain rfl:=Option.some.inj H;go_wp2;go_ret;exact ⟨zW,zB⟩
         ·replace ah:=Bool.eq_false_iff.mpr ah;subst ah;have H1:(g16Check.l1 kj30 0 d c g i j l m n o p b)=some r:=by rw [if_neg (show ¬ (false=true) by decide)] at H;exact H
          clear H;have H:=H1;clear H1;have H':=Aside0.mk H;clear H;go_wp2;go_loopg [5] kj30 (fun kq v5 w'=>∃ (s:Int),v5=.int .i64 s∧Aside0 (g16Check.l1 kq s d c g i j l m n o p b=some r)∧Aside0 (kq≤kj30)∧Aside0 (w'.heap[N]? = some (.cells #[.string d,(.slice A c.length B),.string g,.string i,.int .i64 j,.int .i64 l,.string m,.string n,.int .i64 o,.int .i64 p,.string b] 57 (0,0)))∧Aside0 (Below w.heap.size w w'))
          case atStart=>exact ⟨(0),zE,H',⟨Nat.le_refl _⟩,⟨(zb a)⟩,⟨zB⟩⟩
          case round =>
           clear H';obtain ⟨s,rfl,HA,aJ,a,HB⟩:=hrel;cases gk with
           | zero=>exact absurd HA.out (by simp [g16Check.l1])
           | succ k4 =>
            have H:=HA.out;clear HA;simp only [g16Check.l1] at H;replace H:=zdd H;rcases H with ⟨aK,H⟩ | ⟨aK,H⟩
            ·have H':=Aside0.mk H;clear H;have a3:=zF11 a;go_wp2;go_loopg [6] k4 (fun kq v6 w'=>∃ (v:Int),v6=.int .i64 v∧Aside0 (g16Check.l2 kq s v d c g i j l m n o p b=some r)∧Aside0 (kq≤k4)∧Aside0 (w'.heap[N]? = some (.cells #[.string d,(.slice A c.length B),.string g,.string i,.int .i64 j,.int .i64 l,.string m,.string n,.int .i64 o,.int .i64 p,.string b] 57 (0,0)))∧Aside0 (Below w.heap.size w w'))
             case atStart=>exact ⟨(0),zE,H',⟨Nat.le_refl _⟩,⟨(zb a)⟩,⟨zB⟩⟩
             case round =>
              clear H' aK a3;obtain ⟨v,rfl,HA,aL,a,HB⟩:=hrel;cases gk with
              | zero=>exact absurd HA.out (by simp [g16Check.l2])
              | succ k5 =>
               have H:=HA.out;clear HA;simp only [g16Check.l2] at H;replace H:=zdd H;rcases H with ⟨aU,H⟩ | ⟨aU,H⟩
               ·by_cases aM:0≤s
                ·rw [if_pos aM] at H;have bd:=decide_eq_true aM;clear aM;replace H:=zdn H;obtain ⟨be,H⟩:=H;replace H:=zdn H;obtain ⟨bf,H⟩:=H;replace H:=zdn H;obtain ⟨bg,H⟩:=H;replace H:=zbb H;rcases H with ⟨aV,aW,H⟩ | ⟨bv,aV,aW,H⟩
                 ·obtain rfl:=Option.some.inj H;have bm:=zF11 a;have G:0≤(s:Int):=zD;have I:s < (c.length:Int):=zD;obtain ⟨ap,aC,y⟩:=Kd.at_string M.out s G I;cases aC;replace y:=zC y;replace G:=eq_true G;replace I:=eq_true I;have J:0≤(v:Int):=zD;have L:v < (c.length:Int):=zD;obtain ⟨aq,aD,z⟩:=Kd.at_string M.out v J L;obtain rfl:ap=aq:=(by injection aD);replace z:=zC z;replace J:=eq_true J;replace L:=eq_true L;go_wp2;(repeat (go_quiet (fail);try go_wp2));go_ret;exact ⟨zW,zB⟩
                 ·have H':=Aside0.mk H;clear H;have bn:=zF11 a;have G:0≤(s:Int):=zD;have I:s < (c.length:Int):=zD;obtain ⟨ap,aC,y⟩:=Kd.at_string M.out s G I;cases aC;replace y:=zC y;replace G:=eq_true G;replace I:=eq_true I;have J:0≤(v:Int):=zD;have L:v < (c.length:Int):=zD;obtain ⟨aq,aD,z⟩:=Kd.at_string M.out v J L;obtain rfl:ap=aq:=(by injection aD);replace z:=zC z;replace J:=eq_true J;replace L:=eq_true L;go_wp2;(repeat (go_quiet (fail);try go_wp2));go_roundg k5
                  case measure=>have:=D.out;have:=E.out;have:=ao.out;have:=aJ.out;have:=aL.out;omega
                  case rel=>exact ⟨(wrap64 (v+1)),zE,H',⟨by have:=D.out;have:=E.out;have:=ao.out;have:=aJ.out;have:=aL.out;omega⟩,⟨(zb a)⟩,⟨zB⟩⟩
                ·rw [if_neg aM] at H;exact absurd H (by simp)
               ·have H':=Aside0.mk H;clear H;go_wp2;go_roundg k5
                case measure=>have:=D.out;have:=E.out;have:=ao.out;have:=aJ.out;have:=aL.out;omega
                case rel=>exact ⟨(wrap64 (s+1)),zE,H',⟨by have:=D.out;have:=E.out;have:=ao.out;have:=aJ.out;have:=aL.out;omega⟩,⟨(zb a)⟩,⟨zB⟩⟩
            ·obtain rfl:=Option.some.inj H;have bo:=zF11 a;go_wp2;go_ret;exact ⟨zW,zB⟩
end Go.Proofs.YtninnmdpnoebaaaGreatDoor.PRa
end
section
namespace Go.Proofs.YtninnmdpnoebaaaGreatDoor.Hand
open Go.RowKit Go.Proofs.YtninnmdpnoebaaaGreatDoorW.PrintWords Go.Proofs.YtninnmdpnoebaaaGreatDoorW.PrintLast Go.Proofs.YtninnmdpnoebaaaGreatDoorW.PrintMore
open Go.Proofs.YtninnmdpnoebaaaGreatDoor.PRa
set_option linter.unusedVariables false
set_option linter.unusedSimpArgs false
theorem bt_btN (s:ByteArray) (i:Nat) (h:i < s.size):bt s (i:Int)=((btN s i).toNat:Nat):=by
 have e:btN s i=s[i]'h:=by simp [btN,h];rfl
 rw [e];simp [bt,h]
set_option maxRecDepth 100000 in
theorem hexV_key:∀ n:Fin 256,(48≤n.val∧n.val≤57∨97≤n.val∧n.val≤102)→0≤hexV (UInt8.ofNat n.val):=by decide
theorem hexV_of (b:UInt8) (h:48≤b.toNat∧b.toNat≤57∨97≤b.toNat∧b.toNat≤102):0≤hexV b:=by
 have:=hexV_key ⟨b.toNat,UInt8.toNat_lt b⟩ h;simpa using this
theorem digit_of (k:Nat) (c:Int) (d:Int) (h:g02Digit.f k c=some d) (hd:¬ d < 0):48≤c∧c≤57∨97≤c∧c≤102:=by
 have key:∀ b,g02Digit.j0 k c b=some d→b=true∨97≤c∧c≤102:=fun b h=>by
  cases k with
  | zero=>simp [g02Digit.j0] at h
  | succ k =>
   rw [g02Digit.j0] at h;cases b with
   | true=>exact .inl rfl
   | false =>
    rw [if_neg (by simp)] at h;split at h
    ·rename_i h1
     split at h
     ·rename_i h2;exact .inr ⟨by omega,by omega⟩
     ·obtain rfl:=Option.some.inj h;omega
    ·obtain rfl:=Option.some.inj h;omega
 unfold g02Digit.f at h;split at h
 ·rename_i h1
  rcases key _ h with h2 | h2
  ·exact .inl ⟨by omega,of_decide_eq_true h2⟩
  ·exact .inr h2
 ·rcases key _ h with h2 | h2
  ·simp at h2
  ·exact .inr h2
theorem digits_of (s:ByteArray) (hs:s.size≤1000000):∀ (k i:Nat),g02digits.l0 k s (i:Int)=some true→∀ j,i≤j→j < s.size→0≤hexV (btN s j)
 | 0,i,h=>by simp [g02digits.l0] at h
 | k+1,i,h=>fun j h1 h2=>by
  rw [g02digits.l0,if_pos (by omega),if_pos (by omega)] at h;obtain ⟨d,hd,h⟩:=Option.bind_eq_some_iff.1 h;by_cases c:d < 0
  ·rw [if_pos c] at h;simp at h
  ·rw [if_neg c,wrap64_id (by omega) (by omega),show ((i:Int)+1)=((i+1:Nat):Int) by omega] at h;by_cases cj:j=i
   ·subst cj;rw [bt_btN s j h2] at hd;have:=digit_of _ _ _ hd c;exact hexV_of _ (by omega)
   ·exact digits_of s hs k (i+1) h j (by omega) h2
theorem is_of (k:Nat) (s:ByteArray) (h:g02Is.f k s=some true):isId s=true:=by
 unfold g02Is.f at h;by_cases c:(s.size:Int)=40
 ·rw [if_pos c] at h;obtain ⟨b,hb,h⟩:=Option.bind_eq_some_iff.1 h;obtain rfl:=Option.some.inj h;have hall:=digits_of s (by omega) k 0 hb;unfold isId;rw [decide_eq_true (by omega),Bool.true_and];unfold hexAll;rw [List.all_eq_true];intro x hx;obtain ⟨j,hj,e⟩:=List.getElem_of_mem hx;have hj2:j < s.size:=by rw [← ls_len];exact hj
  have:=hall j (Nat.zero_le _) hj2;have e2:btN s j=x:=by rw [← e];simp [btN,hj2]
  rw [e2] at this;exact decide_eq_true this
 ·rw [if_neg c] at h;simp at h
theorem named_l0 (s:ByteArray) (hs:s.size≤1000000):∀ (k i:Nat),g16named.l0 k s (i:Int)=some true→∀ j,i≤j→j < s.size→32≤btN s j∧btN s j≠60∧btN s j≠62
 | 0,i,h=>by simp [g16named.l0] at h
 | k+1,i,h=>fun j h1 h2=>by
  rw [g16named.l0,if_pos (by omega),if_pos (by omega)] at h;split at h
  ·simp at h
  split at h
  ·simp at h
  split at h
  ·simp at h
  rename_i c1 c2 c3
  rw [wrap64_id (by omega) (by omega),show ((i:Int)+1)=((i+1:Nat):Int) by omega] at h;by_cases cj:j=i
  ·subst cj;rw [bt_btN s j h2] at c1 c2 c3;refine ⟨UInt8.le_iff_toNat_le.2 (by show 32≤_;omega),fun e=>c2 (by rw [e];rfl),fun e=>c3 (by rw [e];rfl)⟩
  ·exact named_l0 s hs k (i+1) h j (by omega) h2
theorem named_of (k:Nat) (s:ByteArray) (h:g16named.f k s=some true):NameOk s:=by
 have key:∀ b,g16named.j0 k s b=some true→b=false∧∃ m,g16named.l0 m s 0=some true:=fun b h=>by
  cases k with
  | zero=>simp [g16named.j0] at h
  | succ k =>
   rw [g16named.j0] at h;cases b with
   | true=>simp at h
   | false=>exact ⟨rfl,k,by simpa using h⟩
 unfold g16named.f at h;split at h
 ·exact absurd (key _ h).1 (by simp)
 split at h
 ·exact absurd (key _ h).1 (by simp)
 rename_i c1 c2
 rw [if_pos (by omega)] at h;split at h
 ·exact absurd (key _ h).1 (by simp)
 rename_i c3
 rw [wrap64_id (by omega) (by omega),if_pos (by omega),if_pos (by omega)] at h;obtain ⟨hb,m,hm⟩:=key _ h;have e1:((s.size:Int) - 1)=((s.size - 1:Nat):Int):=by omega
 rw [e1,bt_btN s (s.size - 1) (by omega)] at hb;have c3':¬ bt s ((0:Nat):Int)=32:=c3;rw [bt_btN s 0 (by omega)] at c3';refine ⟨by omega,by omega,fun e=>c3' (by rw [e];rfl),fun e=>?_,fun i hi=>named_l0 s (by omega) m 0 hm i (Nat.zero_le _) hi⟩;rw [e] at hb;exact absurd hb (by decide)
theorem person_of (k:Nat) (n m:ByteArray) (t z:Int) (h:g16Person.f k n m t z=some true):WhoOk n m t z:=by
 unfold g16Person.f at h;obtain ⟨b1,hb1,h⟩:=Option.bind_eq_some_iff.1 h;split at h
 ·rename_i c1
  subst c1;obtain ⟨b2,hb2,h⟩:=Option.bind_eq_some_iff.1 h;split at h
  ·rename_i c2
   subst c2;split at h
   ·split at h
    ·split at h
     ·have h4:=of_decide_eq_true (Option.some.inj h);exact ⟨named_of k n hb1,named_of k m hb2,by omega,by omega,by omega,by omega⟩
     ·simp at h
    ·simp at h
   ·simp at h
  ·simp at h
 ·simp at h
theorem zero_l0 (s:ByteArray) (hs:s.size≤1000000):∀ (k i:Nat),g16zero.l0 k s (i:Int)=some false→∀ j,i≤j→j < s.size→btN s j≠0
 | 0,i,h=>by simp [g16zero.l0] at h
 | k+1,i,h=>fun j h1 h2=>by
  rw [g16zero.l0,if_pos (by omega),if_pos (by omega)] at h;split at h
  ·simp at h
  rename_i c1
  rw [wrap64_id (by omega) (by omega),show ((i:Int)+1)=((i+1:Nat):Int) by omega] at h;by_cases cj:j=i
  ·subst cj;rw [bt_btN s j h2] at c1;exact fun e=>c1 (by rw [e];rfl)
  ·exact zero_l0 s hs k (i+1) h j (by omega) h2
theorem zero_of (k:Nat) (s:ByteArray) (hs:s.size≤1000000) (h:g16zero.f k s=some false):decide (0≤Lib.indexByte s.data.toList 0)=false:=by
 apply decide_eq_false;intro hx;obtain ⟨o,ho⟩:∃ o:Nat,Lib.indexByte s.data.toList 0=(o:Int):=⟨(Lib.indexByte s.data.toList 0).toNat,by omega⟩;have h1:=(Lib.indexByte_some ho).1;have hlt:o < s.size:=by
  have:=(List.getElem?_eq_some_iff.1 h1).1
  rwa [show s.data.toList.length=s.size from ls_len s] at this
 refine zero_l0 s hs k 0 h o (Nat.zero_le _) hlt ?_;unfold btN;rw [List.getD_eq_getElem?_getD,h1];rfl
section
variable {a0:ByteArray} {l:List ByteArray} {a2 a3:ByteArray} {a4 a5:Int} {a6 a7:ByteArray} {a8 a9:Int} {x:ByteArray}
theorem check_l2 (hl:l.length≤1000000):∀ (k i j:Nat),i < l.length→j≤i→g16Check.l2 k (i:Int) (j:Int) a0 l a2 a3 a4 a5 a6 a7 a8 a9 x=some 0→(∀ t,j≤t→t < i→l.getD t ByteArray.empty≠l.getD i ByteArray.empty)∧∃ m,m < k∧g16Check.l1 m ((i+1:Nat):Int) a0 l a2 a3 a4 a5 a6 a7 a8 a9 x=some 0
 | 0,i,j,_,_,h=>by simp [g16Check.l2] at h
 | k+1,i,j,hi,hj,h=>by
  rw [g16Check.l2] at h;by_cases c:(j:Int) < (i:Int)
  ·rw [if_pos c,if_pos (by omega),if_pos (by omega),if_pos (by omega),if_pos (by omega)] at h;have e1:rdOf ByteArray.empty l (i:Int)=l.getD i ByteArray.empty:=by simp [rdOf]
   have e2:rdOf ByteArray.empty l (j:Int)=l.getD j ByteArray.empty:=by simp [rdOf]
   rw [e1,e2] at h;split at h
   ·simp at h
   rename_i c2
   rw [wrap64_id (by omega) (by omega),show ((j:Int)+1)=((j+1:Nat):Int) by omega] at h;obtain ⟨h1,m,hm,h2⟩:=check_l2 hl k i (j+1) hi (by omega) h;refine ⟨fun t ht1 ht2=>?_,m,by omega,h2⟩;by_cases ct:t=j
   ·subst ct;exact fun e=>c2 (by rw [e])
   ·exact h1 t (by omega) ht2
  ·rw [if_neg c,wrap64_id (by omega) (by omega),show ((i:Int)+1)=((i+1:Nat):Int) by omega] at h;exact ⟨fun t ht1 ht2=>by omega,k,by omega,h⟩
theorem check_l1 (hl:l.length≤1000000):∀ (n k i:Nat),k≤n→i≤l.length→g16Check.l1 k (i:Int) a0 l a2 a3 a4 a5 a6 a7 a8 a9 x=some 0→∀ p,i≤p→p < l.length→∀ t,t < p→l.getD t ByteArray.empty≠l.getD p ByteArray.empty
 | n,0,i,_,_,h=>by simp [g16Check.l1] at h
 | 0,k+1,i,hk,_,_=>by omega
 | n+1,k+1,i,hk,hi,h=>fun p hp1 hp2 t ht=>by
  rw [g16Check.l1,if_pos (by omega)] at h;obtain ⟨h1,m,hm,h2⟩:=check_l2 hl k i 0 (by omega) (Nat.zero_le _) h;by_cases cp:p=i
  ·subst cp;exact h1 t (Nat.zero_le _) ht
  ·exact check_l1 hl n m (i+1) (by omega) (by omega) h2 p (by omega) hp2 t ht
theorem check_l0 (hl:l.length≤1000000):∀ (k i:Nat),i≤l.length→∀ b,g16Check.l0 k b (i:Int) a0 l a2 a3 a4 a5 a6 a7 a8 a9 x=some 0→b=false∧(∀ p,i≤p→p < l.length→isId (l.getD p ByteArray.empty)=true)∧x.size≤4096∧l.length≤8∧∃ m,g16Check.l1 m 0 a0 l a2 a3 a4 a5 a6 a7 a8 a9 x=some 0
 | 0,i,_,b,h=>by simp [g16Check.l0] at h
 | k+1,i,hi,b,h=>by
  rw [g16Check.l0] at h;by_cases c:(i:Int) < (l.length:Int)
  ·rw [if_pos c] at h;cases b with
   | true =>
    rw [if_pos rfl,wrap64_id (by omega) (by omega),show ((i:Int)+1)=((i+1:Nat):Int) by omega] at h;exact absurd (check_l0 hl k (i+1) (by omega) true h).1 (by simp)
   | false =>
    rw [if_neg (by simp),if_pos (by omega)] at h;obtain ⟨d,hd,h⟩:=Option.bind_eq_some_iff.1 h;rw [wrap64_id (by omega) (by omega),show ((i:Int)+1)=((i+1:Nat):Int) by omega] at h;obtain ⟨h1,h2,h3,h4,h5⟩:=check_l0 hl k (i+1) (by omega) _ h;have hdt:d=true:=by simpa using h1
    subst hdt;have e1:rdOf ByteArray.empty l (i:Int)=l.getD i ByteArray.empty:=by simp [rdOf]
    rw [e1] at hd;refine ⟨rfl,fun p hp1 hp2=>?_,h3,h4,h5⟩;by_cases cp:p=i
    ·subst cp;exact is_of k _ hd
    ·exact h2 p (by omega) hp2
  ·rw [if_neg c] at h;cases b with
   | true=>rw [if_pos rfl] at h;simp at h
   | false =>
    have key:∀ b,g16Check.j2 k b a0 l a2 a3 a4 a5 a6 a7 a8 a9 x=some 0→b=false∧∃ m,g16Check.l1 m 0 a0 l a2 a3 a4 a5 a6 a7 a8 a9 x=some 0:=fun b h=>by
     cases k with
     | zero=>simp [g16Check.j2] at h
     | succ k =>
      rw [g16Check.j2] at h;cases b with
      | true=>simp at h
      | false=>exact ⟨rfl,k,by simpa using h⟩
    rw [if_neg (by simp)] at h;split at h
    ·exact absurd (key _ h).1 (by simp)
    ·rename_i c2
     obtain ⟨h1,h2⟩:=key _ h;have:=of_decide_eq_false h1;exact ⟨rfl,fun p hp1 hp2=>by omega,by omega,by omega,h2⟩
theorem check_of (hl:l.length≤1000000) (k:Nat) (h:g16Check.f k a0 l a2 a3 a4 a5 a6 a7 a8 a9 x=some 0):CmOk a0 l a2 a3 a4 a5 a6 a7 a8 a9 x:=by
 have key:∀ b,g16Check.j0 k b a0 l a2 a3 a4 a5 a6 a7 a8 a9 x=some 0→b=false∧(∀ p,p < l.length→isId (l.getD p ByteArray.empty)=true)∧x.size≤4096∧l.length≤8∧∃ m,g16Check.l1 m 0 a0 l a2 a3 a4 a5 a6 a7 a8 a9 x=some 0:=fun b h=>by
  cases k with
  | zero=>simp [g16Check.j0] at h
  | succ k =>
   rw [g16Check.j0] at h;obtain ⟨h1,h2,h3⟩:=check_l0 hl k 0 (Nat.zero_le _) b h;exact ⟨h1,fun p hp=>h2 p (Nat.zero_le _) hp,h3⟩
 unfold g16Check.f at h;obtain ⟨b1,hb1,h⟩:=Option.bind_eq_some_iff.1 h;split at h
 case isFalse=>exact absurd (key _ h).1 (by simp)
 rename_i c1
 subst c1;obtain ⟨b2,hb2,h⟩:=Option.bind_eq_some_iff.1 h;split at h
 case isFalse=>exact absurd (key _ h).1 (by simp)
 rename_i c2
 subst c2;obtain ⟨b3,hb3,h⟩:=Option.bind_eq_some_iff.1 h;split at h
 case isFalse=>exact absurd (key _ h).1 (by simp)
 rename_i c3
 subst c3;obtain ⟨b4,hb4,h⟩:=Option.bind_eq_some_iff.1 h;obtain ⟨hz,hids,hx,hfew,m,hm⟩:=key _ h;subst hz;have hone:=check_l1 hl m m 0 (Nat.le_refl _) (Nat.zero_le _) hm;have hget:∀ p (hp:p < l.length),l.getD p ByteArray.empty=l[p]:=fun p hp=>by simp [hp]
 refine ⟨is_of k _ hb1,fun y hy=>?_,person_of k _ _ _ _ hb2,person_of k _ _ _ _ hb3,zero_of k x (by omega) hb4,hx,hfew,?_⟩
 ·obtain ⟨p,hp,e⟩:=List.getElem_of_mem hy;have:=hids p hp
  rwa [hget p hp,e] at this
 ·rw [List.Nodup,List.pairwise_iff_getElem];intro t p ht hp htp;have:=hone p (Nat.zero_le _) hp t htp
  rwa [hget p hp,hget t ht] at this
end
end Go.Proofs.YtninnmdpnoebaaaGreatDoor.Hand
end
section
namespace Go.Proofs.YtninnmdpnoebaaaGreatDoor.PRa
open Go.Proofs.YtninnmdpnoebaaaGreatDoor.Sq Go.Proofs.YtninnmdpnoebaaaGreatDoor.Hand Go.RowKit Go.Proofs.YtninnmdpnoebaaaGreatDoorW.PrintWords Go.Proofs.YtninnmdpnoebaaaGreatDoorW.PrintLast Go.Proofs.YtninnmdpnoebaaaGreatDoorW.PrintMore
attribute [local go_sem] max2_int min2_int max_two min_two max_three min_three max_four min_four
set_option linter.unusedVariables false
set_option linter.unusedSimpArgs false
mutual
def g16Digits.j0:Nat→ByteArray→Bool→Option (Bool)
 | 0,_,_=>none
 | k+1,a,c=>if c=true then (some false) else (g16Digits.l0 k a 0)
def g16Digits.l0:Nat→ByteArray→Int→Option (Bool)
 | 0,_,_=>none
 | k+1,a,b=>if b < (a.size:Int) then (if 0≤b then (if (bt a b) < 48 then (some false) else (if (bt a b) > 57 then (some false) else (g16Digits.l0 k a (wrap64 (b+1))))) else (none)) else (some true)
end
def g16Digits.f (k:Nat) (a:ByteArray):Option (Bool):=if (a.size:Int) < 1 then (g16Digits.j0 k a true) else (if (a.size:Int) > 18 then (g16Digits.j0 k a true) else (if (a.size:Int) > 1 then (if 0 < (a.size:Int) then (g16Digits.j0 k a ((bt a 0) == 48)) else (none)) else (g16Digits.j0 k a false)))
set_option maxHeartbeats 8000000 in
set_option maxRecDepth 100000 in
theorem g16Digits.calls (k:Nat) (b:ByteArray) (r:Bool) (w:World) (h:g16Digits.f k b=some r) :
  Calls Tryz.prog 128 #[.string b] w fun e w'=>e=.returned (.bool r)∧Drawn0 w w':=by
 have H:(if (b.size:Int) < 1 then (g16Digits.j0 k b true) else (if (b.size:Int) > 18 then (g16Digits.j0 k b true) else (if (b.size:Int) > 1 then (if 0 < (b.size:Int) then (g16Digits.j0 k b ((bt b 0) == 48)) else (none)) else (g16Digits.j0 k b false))))=some r:=h;clear h;have v:=Aside0.mk H;clear H;go_enter Tryz.func128,Tryz.ntmps128;go_upto_region 1 with (fail);go_cut [21] (fun Q wc=>∃ (kq:Nat) (i:Bool),Q=.bool i∧Aside0 (g16Digits.j0 kq b i=some r)∧Aside0 (kq≤k)∧Drawn0 w wc)
 case first =>
  have H:=v.out;clear v;replace H:=zdg H;rcases H with ⟨x,c,H⟩ | ⟨x,c,H⟩
  ·have n:decide (b.size < 1)=true:=decide_eq_true (by omega);clear x;(first | rw [c] | (simp only [i64_w,i32_w];rw [c]) | skip);have H':=Aside0.mk H;clear H;go_wp2;go_meet
   case rel=>exact ⟨_,(true),zE,H',⟨by first | omega | exact Nat.le_refl _⟩,zDr⟩
  ·have n:decide (b.size < 1)=false:=decide_eq_false (by omega);clear x;(first | rw [c] | (simp only [i64_w,i32_w];rw [c]) | skip);replace H:=zdg H;rcases H with ⟨y,o,H⟩ | ⟨y,o,H⟩
   ·have p:decide (18 < b.size)=true:=decide_eq_true (by omega);clear y;have H':=Aside0.mk H;clear H;go_wp2;go_meet
    case rel=>exact ⟨_,(true),zE,H',⟨by first | omega | exact Nat.le_refl _⟩,zDr⟩
   ·have p:decide (18 < b.size)=false:=decide_eq_false (by omega);clear y;replace H:=zdg H;rcases H with ⟨z,q,H⟩ | ⟨z,q,H⟩
    ·have s:decide (1 < b.size)=true:=decide_eq_true (by omega);clear z;replace H:=zgn H;obtain ⟨M,A,H⟩:=H;have B:decide (0 < b.size)=true:=decide_eq_true (by omega);clear M;have H':=Aside0.mk H;clear H;have C:0≤(0:Int):=(by omega);have u:0 < b.size:=(by have:(0:Int) < (b.size:Int):=zD;omega);have I:∀ h:0 < b.size,((b[0]'h).toNat:Int)=bt b 0:=bt_at b 0;clear C;have qi7:(0 < (b.size:Int))=True:=eq_true (zD);replace u:=eq_true u;go_wp2;go_meet
     case rel=>exact ⟨_,(((bt b 0) == 48)),zE,H',⟨by first | omega | exact Nat.le_refl _⟩,zDr⟩
    ·have s:decide (1 < b.size)=false:=decide_eq_false (by omega);clear z;have H':=Aside0.mk H;clear H;go_wp2;go_meet
     case rel=>exact ⟨_,(false),zE,H',⟨by first | omega | exact Nat.le_refl _⟩,zDr⟩
 case rest =>
  clear v;obtain ⟨kq,i,rfl,HA,J,⟨mc1,rfl⟩⟩:=hcut;cases kq with
  | zero=>exact absurd HA.out (by simp [g16Digits.j0])
  | succ kj1 =>
   have H:=HA.out;clear HA;simp only [g16Digits.j0] at H;by_cases D:i=true
   ·subst D;have H1:(some false)=some r:=by rw [if_pos rfl] at H;exact H
    clear H;have H:=H1;clear H1;obtain rfl:=Option.some.inj H;go_wp2;go_ret;exact ⟨zE,zDr⟩
   ·replace D:=Bool.eq_false_iff.mpr D;subst D;have H1:(g16Digits.l0 kj1 b 0)=some r:=by rw [if_neg (show ¬ (false=true) by decide)] at H;exact H
    clear H;have H:=H1;clear H1;have H':=Aside0.mk H;clear H;go_wp2;go_loopg [3] kj1 (fun kq V w'=>∃ (a:Int),V=.int .i64 a∧Aside0 (g16Digits.l0 kq b a=some r)∧Aside0 (kq≤kj1)∧Drawn0 w w')
    case atStart=>exact ⟨(0),zE,H',⟨Nat.le_refl _⟩,zDr⟩
    case round =>
     clear H';obtain ⟨a,rfl,HA,L,⟨W,rfl⟩⟩:=hrel;cases gk with
     | zero=>exact absurd HA.out (by simp [g16Digits.l0])
     | succ k2 =>
      have H:=HA.out;clear HA;simp only [g16Digits.l0] at H;replace H:=zdd H;rcases H with ⟨N,H⟩ | ⟨N,H⟩
      ·by_cases t:0≤a
       ·rw [if_pos t] at H;have T:=decide_eq_true t;clear t;replace H:=zdd H;rcases H with ⟨F,H⟩ | ⟨F,H⟩
        ·obtain rfl:=Option.some.inj H;have d:0≤(a:Int):=zD;have g:a < (b.size:Int):=zD;have E:=bt_at b a;replace d:=eq_true d;replace g:=eq_true g;go_wp2;go_ret;exact ⟨zE,zDr⟩
        ·by_cases j:(bt b a) > 57
         ·rw [if_pos j] at H;have G:=decide_eq_true j;clear j;obtain rfl:=Option.some.inj H;have d:0≤(a:Int):=zD;have g:a < (b.size:Int):=zD;have E:=bt_at b a;replace d:=eq_true d;replace g:=eq_true g;have l:0≤(a:Int):=zD;have m:a < (b.size:Int):=zD;have O:=bt_at b a;replace l:=eq_true l;replace m:=eq_true m;go_wp2;go_ret;exact ⟨zE,zDr⟩
         ·rw [if_neg j] at H;have G:=decide_eq_false j;clear j;have H':=Aside0.mk H;clear H;have d:0≤(a:Int):=zD;have g:a < (b.size:Int):=zD;have E:=bt_at b a;replace d:=eq_true d;replace g:=eq_true g;have l:0≤(a:Int):=zD;have m:a < (b.size:Int):=zD;have O:=bt_at b a;replace l:=eq_true l;replace m:=eq_true m;go_wp2;go_roundg k2
          case measure=>have:=J.out;have:=L.out;omega
          case rel=>exact ⟨(wrap64 (a+1)),zE,H',⟨by have:=J.out;have:=L.out;omega⟩,zDr⟩
       ·rw [if_neg t] at H;exact absurd H (by simp)
      ·obtain rfl:=Option.some.inj H;go_wp2;go_ret;exact ⟨zE,zDr⟩
end Go.Proofs.YtninnmdpnoebaaaGreatDoor.PRa
end
section
namespace Go.Proofs.YtninnmdpnoebaaaGreatDoor.PRa
open Go.Proofs.YtninnmdpnoebaaaGreatDoor.Sq Go.Proofs.YtninnmdpnoebaaaGreatDoor.Hand Go.RowKit Go.Proofs.YtninnmdpnoebaaaGreatDoorW.PrintWords Go.Proofs.YtninnmdpnoebaaaGreatDoorW.PrintLast Go.Proofs.YtninnmdpnoebaaaGreatDoorW.PrintMore
attribute [local go_sem] max2_int min2_int max_two min_two max_three min_three max_four min_four
set_option linter.unusedVariables false
set_option linter.unusedSimpArgs false
def g16ParseWho.j0:Nat→ByteArray→Int→Int→Int→Bool→ByteArray→ByteArray→Int→Int→Option (ByteArray × ByteArray × Int × Int × Int)
 | 0,_,_,_,_,_,_,_,_,_=>none
 | k+1,l,d,e,m,o,a,b,h,j=>if o=true then (some ((⟨#[]⟩:ByteArray),(⟨#[]⟩:ByteArray),0,0,2)) else (if 0≤(wrap64 (d+2)) then (if (wrap64 (d+2))≤e then (if e≤(l.size:Int) then ((g16Value.f k (l.extract ((wrap64 (d+2)):Int).toNat (e:Int).toNat)).bind fun c=>((g16Person.f k a b c m).bind fun g=>(if g=true then (some (a,b,c,m,0)) else (some ((⟨#[]⟩:ByteArray),(⟨#[]⟩:ByteArray),0,0,1))))) else (none)) else (none)) else (none))
def g16ParseWho.f (k:Nat) (c:ByteArray):Option (ByteArray × ByteArray × Int × Int × Int):=(g16find.f k c (⟨#[32,60]⟩:ByteArray) 0).bind fun a=>(if a < 0 then (some ((⟨#[]⟩:ByteArray),(⟨#[]⟩:ByteArray),0,0,2)) else ((g16find.f k c (⟨#[62,32]⟩:ByteArray) a).bind fun b=>(if b < 0 then (some ((⟨#[]⟩:ByteArray),(⟨#[]⟩:ByteArray),0,0,2)) else ((g16find.f k c (⟨#[32]⟩:ByteArray) (wrap64 (b+2))).bind fun d=>(if d < 0 then (some ((⟨#[]⟩:ByteArray),(⟨#[]⟩:ByteArray),0,0,2)) else (if 0≤a then (if a≤(c.size:Int) then (if 0≤(wrap64 (a+2)) then (if (wrap64 (a+2))≤b then (if b≤(c.size:Int) then (if 0≤(wrap64 (d+1)) then (if (wrap64 (d+1))≤(c.size:Int) then ((g16zone.f k (c.extract ((wrap64 (d+1)):Int).toNat c.size)).bind fun e=>(if e.2=true then (if 0≤(wrap64 (b+2)) then (if (wrap64 (b+2))≤d then (if d≤(c.size:Int) then ((g16Digits.f k (c.extract ((wrap64 (b+2)):Int).toNat (d:Int).toNat)).bind fun g=>(if g=true then ((g16find.f k (c.extract 0 (a:Int).toNat) (⟨#[60]⟩:ByteArray) 0).bind fun h=>(if h≥0 then (g16ParseWho.j0 k c b d e.1 true (c.extract 0 (a:Int).toNat) (c.extract ((wrap64 (a+2)):Int).toNat (b:Int).toNat) 0 0) else ((g16find.f k (c.extract 0 (a:Int).toNat) (⟨#[62]⟩:ByteArray) 0).bind fun j=>(if j≥0 then (g16ParseWho.j0 k c b d e.1 true (c.extract 0 (a:Int).toNat) (c.extract ((wrap64 (a+2)):Int).toNat (b:Int).toNat) 0 0) else ((g16find.f k (c.extract ((wrap64 (a+2)):Int).toNat (b:Int).toNat) (⟨#[60]⟩:ByteArray) 0).bind fun l=>(if l≥0 then (g16ParseWho.j0 k c b d e.1 true (c.extract 0 (a:Int).toNat) (c.extract ((wrap64 (a+2)):Int).toNat (b:Int).toNat) 0 0) else ((g16find.f k (c.extract ((wrap64 (a+2)):Int).toNat (b:Int).toNat) (⟨#[62]⟩:ByteArray) 0).bind fun m=>(g16ParseWho.j0 k c b d e.1 (decide (m≥0)) (c.extract 0 (a:Int).toNat) (c.extract ((wrap64 (a+2)):Int).toNat (b:Int).toNat) 0 0)))))))) else (g16ParseWho.j0 k c b d e.1 true (c.extract 0 (a:Int).toNat) (c.extract ((wrap64 (a+2)):Int).toNat (b:Int).toNat) 0 0))) else (none)) else (none)) else (none)) else (g16ParseWho.j0 k c b d e.1 true (c.extract 0 (a:Int).toNat) (c.extract ((wrap64 (a+2)):Int).toNat (b:Int).toNat) 0 0))) else (none)) else (none)) else (none)) else (none)) else (none)) else (none)) else (none)))))))
def g16ParseWho.T10:Bool × List (List Nat × List Nat):=(true,[([],[]),([],[]),([0,1],[0,1]),([],[]),([],[]),([4],[4]),([],[]),([3,5,6],[3,5,6]),([2,7],[2,7]),([],[]),([9,8,0,1,2,3,4,5,6,7,8,9],[8,9])])
def g16ParseWho.B10:List Nat:=[0,0,3,0,0,16,0,120,255,0,1023]
theorem g16ParseWho.tab10:rtab .any (opsOf Tryz.f100 10)=g16ParseWho.T10:=by kernel_rfl
theorem g16ParseWho.bits10:waitsOk g16ParseWho.T10.2 g16ParseWho.B10=true:=by kernel_rfl
set_option maxHeartbeats 8000000 in
set_option maxRecDepth 100000 in
theorem g16ParseWho.calls (k:Nat) (b:ByteArray) (M:ByteArray) (O:ByteArray) (Q:Int) (R:Int) (T:Int) (w:World) (h:g16ParseWho.f k b=some (M,O,Q,R,T)) :
  Calls Tryz.prog 100 #[.string b] w fun e w'=>e=.returned (.tuple #[.agg #[.string M,.string O,.int .i64 Q,.int .i64 R],.int .i64 T])∧Below w.heap.size w w':=by
 have bH:=Tryz.underlying51;have HB:=Aside0.mk (Below.refl w.heap.size w);have H:((g16find.f k b (⟨#[32,60]⟩:ByteArray) 0).bind fun c=>(if c < 0 then (some ((⟨#[]⟩:ByteArray),(⟨#[]⟩:ByteArray),0,0,2)) else ((g16find.f k b (⟨#[62,32]⟩:ByteArray) c).bind fun a=>(if a < 0 then (some ((⟨#[]⟩:ByteArray),(⟨#[]⟩:ByteArray),0,0,2)) else ((g16find.f k b (⟨#[32]⟩:ByteArray) (wrap64 (a+2))).bind fun g=>(if g < 0 then (some ((⟨#[]⟩:ByteArray),(⟨#[]⟩:ByteArray),0,0,2)) else (if 0≤c then (if c≤(b.size:Int) then (if 0≤(wrap64 (c+2)) then (if (wrap64 (c+2))≤a then (if a≤(b.size:Int) then (if 0≤(wrap64 (g+1)) then (if (wrap64 (g+1))≤(b.size:Int) then ((g16zone.f k (b.extract ((wrap64 (g+1)):Int).toNat b.size)).bind fun o=>(if o.2=true then (if 0≤(wrap64 (a+2)) then (if (wrap64 (a+2))≤g then (if g≤(b.size:Int) then ((g16Digits.f k (b.extract ((wrap64 (a+2)):Int).toNat (g:Int).toNat)).bind fun E=>(if E=true then ((g16find.f k (b.extract 0 (c:Int).toNat) (⟨#[60]⟩:ByteArray) 0).bind fun v=>(if v≥0 then (g16ParseWho.j0 k b a g o.1 true (b.extract 0 (c:Int).toNat) (b.extract ((wrap64 (c+2)):Int).toNat (a:Int).toNat) 0 0) else ((g16find.f k (b.extract 0 (c:Int).toNat) (⟨#[62]⟩:ByteArray) 0).bind fun y=>(if y≥0 then (g16ParseWho.j0 k b a g o.1 true (b.extract 0 (c:Int).toNat) (b.extract ((wrap64 (c+2)):Int).toNat (a:Int).toNat) 0 0) else ((g16find.f k (b.extract ((wrap64 (c+2)):Int).toNat (a:Int).toNat) (⟨#[60]⟩:ByteArray) 0).bind fun z=>(if z≥0 then (g16ParseWho.j0 k b a g o.1 true (b.extract 0 (c:Int).toNat) (b.extract ((wrap64 (c+2)):Int).toNat (a:Int).toNat) 0 0) else ((g16find.f k (b.extract ((wrap64 (c+2)):Int).toNat (a:Int).toNat) (⟨#[62]⟩:ByteArray) 0).bind fun A=>(g16ParseWho.j0 k b a g o.1 (decide (A≥0)) (b.extract 0 (c:Int).toNat) (b.extract ((wrap64 (c+2)):Int).toNat (a:Int).toNat) 0 0)))))))) else (g16ParseWho.j0 k b a g o.1 true (b.extract 0 (c:Int).toNat) (b.extract ((wrap64 (c+2)):Int).toNat (a:Int).toNat) 0 0))) else (none)) else (none)) else (none)) else (g16ParseWho.j0 k b a g o.1 true (b.extract 0 (c:Int).toNat) (b.extract ((wrap64 (c+2)):Int).toNat (a:Int).toNat) 0 0))) else (none)) else (none)) else (none)) else (none)) else (none)) else (none)) else (none))))))))=some (M,O,Q,R,T):=h;clear h;replace H:=zbd H;obtain ⟨c,A2,H⟩:=H;replace H:=zdd H;rcases H with ⟨aq,H⟩ | ⟨aq,H⟩
 ·simp only [Option.some.injEq,Prod.mk.injEq] at H;obtain ⟨rfl,rfl,rfl,rfl,rfl⟩:=H;go_enter Tryz.func100,Tryz.ntmps100;go_wp2_with (first | ((with_reducible refine zgd 2 ?_);refine zBx 2 #[.string (⟨#[]⟩:ByteArray),.string (⟨#[]⟩:ByteArray),.int .i64 0,.int .i64 0] 51 ?_;intro p hg w4 hbox hb;have d:=Aside0.mk (hbox);have Z:=zGE HB hg;have aa:=zGE HB hg;replace HB:=zbs HB hb;clear hb hbox hg) | ((with_reducible refine zgc 99 ?_);refine zGL 11 Tryz.func99 #[.string b,.string (⟨#[32,60]⟩:ByteArray),.int .i64 0] ?_;(with_reducible refine (g16find.calls k b (⟨#[32,60]⟩:ByteArray) 0 c _ A2.out).mono ?_);rintro e w' ⟨rfl,⟨nd,rfl⟩⟩;refine ⟨_,rfl,?_⟩;(try (rw [drewN_self w4];generalize hq_:World.drewN w4 _=w4;have s:Aside0 (w4.heap[p]? = some (.cells #[.string (⟨#[]⟩:ByteArray),.string (⟨#[]⟩:ByteArray),.int .i64 0,.int .i64 0] 51 (0,0))):=⟨by rw [← hq_];exact (zb d)⟩;have u:Aside0 (Below w.heap.size w w4):=⟨by rw [← hq_];exact zB⟩;clear d HB hq_;have d:=s;have HB:=u;clear s u));have a9:=zF4 d));refine bodyPost_ret (results_ct rfl _ _ p 51 #[.string (⟨#[]⟩:ByteArray),.string (⟨#[]⟩:ByteArray),.int .i64 0,.int .i64 0] (0,0) _ rfl (zc d) Tryz.underlying51 rfl (by kernel_rfl)) rfl ?_;exact ⟨zW,zB⟩
 ·replace H:=zbd H;obtain ⟨a,A6,H⟩:=H;replace H:=zdd H;rcases H with ⟨av,H⟩ | ⟨av,H⟩
  ·simp only [Option.some.injEq,Prod.mk.injEq] at H;obtain ⟨rfl,rfl,rfl,rfl,rfl⟩:=H;go_enter Tryz.func100,Tryz.ntmps100;go_wp2_with (first | ((with_reducible refine zgd 2 ?_);refine zBx 2 #[.string (⟨#[]⟩:ByteArray),.string (⟨#[]⟩:ByteArray),.int .i64 0,.int .i64 0] 51 ?_;intro p hg X hbox hb;have d:=Aside0.mk (hbox);have Z:=zGE HB hg;have aa:=zGE HB hg;replace HB:=zbs HB hb;clear hb hbox hg) | ((with_reducible refine zgc 99 ?_);refine zGL 11 Tryz.func99 #[.string b,.string (⟨#[32,60]⟩:ByteArray),.int .i64 0] ?_;(with_reducible refine (g16find.calls k b (⟨#[32,60]⟩:ByteArray) 0 c _ A2.out).mono ?_);rintro e w' ⟨rfl,⟨nd,rfl⟩⟩;refine ⟨_,rfl,?_⟩;(try (rw [drewN_self X];generalize hq_:World.drewN X _=X;have s:Aside0 (X.heap[p]? = some (.cells #[.string (⟨#[]⟩:ByteArray),.string (⟨#[]⟩:ByteArray),.int .i64 0,.int .i64 0] 51 (0,0))):=⟨by rw [← hq_];exact (zb d)⟩;have u:Aside0 (Below w.heap.size w X):=⟨by rw [← hq_];exact zB⟩;clear d HB hq_;have d:=s;have HB:=u;clear s u))) | ((with_reducible refine zgc 99 ?_);refine zGL 17 Tryz.func99 #[.string b,.string (⟨#[62,32]⟩:ByteArray),.int .i64 c] ?_;(with_reducible refine (g16find.calls k b (⟨#[62,32]⟩:ByteArray) c a _ A6.out).mono ?_);rintro e w' ⟨rfl,⟨nd,rfl⟩⟩;refine ⟨_,rfl,?_⟩;(try (rw [drewN_self X];generalize hq_:World.drewN X _=X;have s:Aside0 (X.heap[p]? = some (.cells #[.string (⟨#[]⟩:ByteArray),.string (⟨#[]⟩:ByteArray),.int .i64 0,.int .i64 0] 51 (0,0))):=⟨by rw [← hq_];exact (zb d)⟩;have u:Aside0 (Below w.heap.size w X):=⟨by rw [← hq_];exact zB⟩;clear d HB hq_;have d:=s;have HB:=u;clear s u));have ba:=zF4 d));refine bodyPost_ret (results_ct rfl _ _ p 51 #[.string (⟨#[]⟩:ByteArray),.string (⟨#[]⟩:ByteArray),.int .i64 0,.int .i64 0] (0,0) _ rfl (zc d) Tryz.underlying51 rfl (by kernel_rfl)) rfl ?_;exact ⟨zW,zB⟩
  ·replace H:=zbd H;obtain ⟨g,ah,H⟩:=H;replace H:=zdd H;rcases H with ⟨ai,H⟩ | ⟨ai,H⟩
   ·simp only [Option.some.injEq,Prod.mk.injEq] at H;obtain ⟨rfl,rfl,rfl,rfl,rfl⟩:=H;go_enter Tryz.func100,Tryz.ntmps100;go_wp2_with (first | ((with_reducible refine zgd 2 ?_);refine zBx 2 #[.string (⟨#[]⟩:ByteArray),.string (⟨#[]⟩:ByteArray),.int .i64 0,.int .i64 0] 51 ?_;intro p hg F hbox hb;have d:=Aside0.mk (hbox);have Z:=zGE HB hg;have aa:=zGE HB hg;replace HB:=zbs HB hb;clear hb hbox hg) | ((with_reducible refine zgc 99 ?_);refine zGL 11 Tryz.func99 #[.string b,.string (⟨#[32,60]⟩:ByteArray),.int .i64 0] ?_;(with_reducible refine (g16find.calls k b (⟨#[32,60]⟩:ByteArray) 0 c _ A2.out).mono ?_);rintro e w' ⟨rfl,⟨nd,rfl⟩⟩;refine ⟨_,rfl,?_⟩;(try (rw [drewN_self F];generalize hq_:World.drewN F _=F;have s:Aside0 (F.heap[p]? = some (.cells #[.string (⟨#[]⟩:ByteArray),.string (⟨#[]⟩:ByteArray),.int .i64 0,.int .i64 0] 51 (0,0))):=⟨by rw [← hq_];exact (zb d)⟩;have u:Aside0 (Below w.heap.size w F):=⟨by rw [← hq_];exact zB⟩;clear d HB hq_;have d:=s;have HB:=u;clear s u))) | ((with_reducible refine zgc 99 ?_);refine zGL 17 Tryz.func99 #[.string b,.string (⟨#[62,32]⟩:ByteArray),.int .i64 c] ?_;(with_reducible refine (g16find.calls k b (⟨#[62,32]⟩:ByteArray) c a _ A6.out).mono ?_);rintro e w' ⟨rfl,⟨nd,rfl⟩⟩;refine ⟨_,rfl,?_⟩;(try (rw [drewN_self F];generalize hq_:World.drewN F _=F;have s:Aside0 (F.heap[p]? = some (.cells #[.string (⟨#[]⟩:ByteArray),.string (⟨#[]⟩:ByteArray),.int .i64 0,.int .i64 0] 51 (0,0))):=⟨by rw [← hq_];exact (zb d)⟩;have u:Aside0 (Below w.heap.size w F):=⟨by rw [← hq_];exact zB⟩;clear d HB hq_;have d:=s;have HB:=u;clear s u))) | ((with_reducible refine zgc 99 ?_);refine zGL 24 Tryz.func99 #[.string b,.string (⟨#[32]⟩:ByteArray),.int .i64 (wrap64 (a+2))] ?_;(with_reducible refine (g16find.calls k b (⟨#[32]⟩:ByteArray) (wrap64 (a+2)) g _ ah.out).mono ?_);rintro e w' ⟨rfl,⟨nd,rfl⟩⟩;refine ⟨_,rfl,?_⟩;(try (rw [drewN_self F];generalize hq_:World.drewN F _=F;have s:Aside0 (F.heap[p]? = some (.cells #[.string (⟨#[]⟩:ByteArray),.string (⟨#[]⟩:ByteArray),.int .i64 0,.int .i64 0] 51 (0,0))):=⟨by rw [← hq_];exact (zb d)⟩;have u:Aside0 (Below w.heap.size w F):=⟨by rw [← hq_];exact zB⟩;clear d HB hq_;have d:=s;have HB:=u;clear s u));have aV:=zF4 d));refine bodyPost_ret (results_ct rfl _ _ p 51 #[.string (⟨#[]⟩:ByteArray),.string (⟨#[]⟩:ByteArray),.int .i64 0,.int .i64 0] (0,0) _ rfl (zc d) Tryz.underlying51 rfl (by kernel_rfl)) rfl ?_;exact ⟨zW,zB⟩
   ·by_cases Y:0≤c
    ·rw [if_pos Y] at H;have ay:=eq_true Y;have az:=decide_eq_true Y;clear Y;replace H:=zen H;obtain ⟨aA,aB,H⟩:=H;obtain ⟨j,B⟩:=zj (α:=Int) (wrap64 (c+2));replace H:(if 0≤(j) then (if (j)≤a then (if a≤(b.size:Int) then (if 0≤(wrap64 (g+1)) then (if (wrap64 (g+1))≤(b.size:Int) then ((g16zone.f k (b.extract ((wrap64 (g+1)):Int).toNat b.size)).bind fun o=>(if o.2=true then (if 0≤(wrap64 (a+2)) then (if (wrap64 (a+2))≤g then (if g≤(b.size:Int) then ((g16Digits.f k (b.extract ((wrap64 (a+2)):Int).toNat (g:Int).toNat)).bind fun E=>(if E=true then ((g16find.f k (b.extract 0 (c:Int).toNat) (⟨#[60]⟩:ByteArray) 0).bind fun v=>(if v≥0 then (g16ParseWho.j0 k b a g o.1 true (b.extract 0 (c:Int).toNat) (b.extract ((j):Int).toNat (a:Int).toNat) 0 0) else ((g16find.f k (b.extract 0 (c:Int).toNat) (⟨#[62]⟩:ByteArray) 0).bind fun y=>(if y≥0 then (g16ParseWho.j0 k b a g o.1 true (b.extract 0 (c:Int).toNat) (b.extract ((j):Int).toNat (a:Int).toNat) 0 0) else ((g16find.f k (b.extract ((j):Int).toNat (a:Int).toNat) (⟨#[60]⟩:ByteArray) 0).bind fun z=>(if z≥0 then (g16ParseWho.j0 k b a g o.1 true (b.extract 0 (c:Int).toNat) (b.extract ((j):Int).toNat (a:Int).toNat) 0 0) else ((g16find.f k (b.extract ((j):Int).toNat (a:Int).toNat) (⟨#[62]⟩:ByteArray) 0).bind fun A=>(g16ParseWho.j0 k b a g o.1 (decide (A≥0)) (b.extract 0 (c:Int).toNat) (b.extract ((j):Int).toNat (a:Int).toNat) 0 0)))))))) else (g16ParseWho.j0 k b a g o.1 true (b.extract 0 (c:Int).toNat) (b.extract ((j):Int).toNat (a:Int).toNat) 0 0))) else (none)) else (none)) else (none)) else (g16ParseWho.j0 k b a g o.1 true (b.extract 0 (c:Int).toNat) (b.extract ((j):Int).toNat (a:Int).toNat) 0 0))) else (none)) else (none)) else (none)) else (none)) else (none))=some (M,O,Q,R,T):=zJ B H;(try rw [B] at A2);(try rw [B] at A6);(try rw [B] at ah);have bb:(IntKind.i64.wrap (c+2))=j:=(i64_w _).trans B;replace H:=zen H;obtain ⟨aC,aD,H⟩:=H;replace H:=zen H;obtain ⟨aE,aF,H⟩:=H;replace H:=zen H;obtain ⟨aG,aH,H⟩:=H;obtain ⟨V,D⟩:=zj (α:=Int) (wrap64 (g+1));replace H:(if 0≤(V) then (if (V)≤(b.size:Int) then ((g16zone.f k (b.extract ((V):Int).toNat b.size)).bind fun o=>(if o.2=true then (if 0≤(wrap64 (a+2)) then (if (wrap64 (a+2))≤g then (if g≤(b.size:Int) then ((g16Digits.f k (b.extract ((wrap64 (a+2)):Int).toNat (g:Int).toNat)).bind fun E=>(if E=true then ((g16find.f k (b.extract 0 (c:Int).toNat) (⟨#[60]⟩:ByteArray) 0).bind fun v=>(if v≥0 then (g16ParseWho.j0 k b a g o.1 true (b.extract 0 (c:Int).toNat) (b.extract ((j):Int).toNat (a:Int).toNat) 0 0) else ((g16find.f k (b.extract 0 (c:Int).toNat) (⟨#[62]⟩:ByteArray) 0).bind fun y=>(if y≥0 then (g16ParseWho.j0 k b a g o.1 true (b.extract 0 (c:Int).toNat) (b.extract ((j):Int).toNat (a:Int).toNat) 0 0) else ((g16find.f k (b.extract ((j):Int).toNat (a:Int).toNat) (⟨#[60]⟩:ByteArray) 0).bind fun z=>(if z≥0 then (g16ParseWho.j0 k b a g o.1 true (b.extract 0 (c:Int).toNat) (b.extract ((j):Int).toNat (a:Int).toNat) 0 0) else ((g16find.f k (b.extract ((j):Int).toNat (a:Int).toNat) (⟨#[62]⟩:ByteArray) 0).bind fun A=>(g16ParseWho.j0 k b a g o.1 (decide (A≥0)) (b.extract 0 (c:Int).toNat) (b.extract ((j):Int).toNat (a:Int).toNat) 0 0)))))))) else (g16ParseWho.j0 k b a g o.1 true (b.extract 0 (c:Int).toNat) (b.extract ((j):Int).toNat (a:Int).toNat) 0 0))) else (none)) else (none)) else (none)) else (g16ParseWho.j0 k b a g o.1 true (b.extract 0 (c:Int).toNat) (b.extract ((j):Int).toNat (a:Int).toNat) 0 0))) else (none)) else (none))=some (M,O,Q,R,T):=zJ D H;(try rw [D] at A2);(try rw [D] at A6);(try rw [D] at ah);have bc:(IntKind.i64.wrap (g+1))=V:=(i64_w _).trans D;replace H:=zen H;obtain ⟨aI,aJ,H⟩:=H;replace H:=zen H;obtain ⟨aK,aL,H⟩:=H;replace H:=zbd H;obtain ⟨⟨m,aw⟩,bd,H⟩:=H;dsimp only at H;have ag:=Aside0.mk H;clear H;go_enter Tryz.func100,Tryz.ntmps100;(try go_wp2_with (first | ((with_reducible refine zgd 2 ?_);refine zBx 2 #[.string (⟨#[]⟩:ByteArray),.string (⟨#[]⟩:ByteArray),.int .i64 0,.int .i64 0] 51 ?_;intro p hg C hbox hb;have d:=Aside0.mk (hbox);have Z:=zGE HB hg;have aa:=zGE HB hg;replace HB:=zbs HB hb;clear hb hbox hg) | ((with_reducible refine zgc 99 ?_);refine zGL 11 Tryz.func99 #[.string b,.string (⟨#[32,60]⟩:ByteArray),.int .i64 0] ?_;(with_reducible refine (g16find.calls k b (⟨#[32,60]⟩:ByteArray) 0 c _ A2.out).mono ?_);rintro e w' ⟨rfl,⟨nd,rfl⟩⟩;refine ⟨_,rfl,?_⟩;(try (rw [drewN_self C];generalize hq_:World.drewN C _=C;have s:Aside0 (C.heap[p]? = some (.cells #[.string (⟨#[]⟩:ByteArray),.string (⟨#[]⟩:ByteArray),.int .i64 0,.int .i64 0] 51 (0,0))):=⟨by rw [← hq_];exact (zb d)⟩;have u:Aside0 (Below w.heap.size w C):=⟨by rw [← hq_];exact zB⟩;clear d HB hq_;have d:=s;have HB:=u;clear s u))) | ((with_reducible refine zgc 99 ?_);refine zGL 17 Tryz.func99 #[.string b,.string (⟨#[62,32]⟩:ByteArray),.int .i64 c] ?_;(with_reducible refine (g16find.calls k b (⟨#[62,32]⟩:ByteArray) c a _ A6.out).mono ?_);rintro e w' ⟨rfl,⟨nd,rfl⟩⟩;refine ⟨_,rfl,?_⟩;(try (rw [drewN_self C];generalize hq_:World.drewN C _=C;have s:Aside0 (C.heap[p]? = some (.cells #[.string (⟨#[]⟩:ByteArray),.string (⟨#[]⟩:ByteArray),.int .i64 0,.int .i64 0] 51 (0,0))):=⟨by rw [← hq_];exact (zb d)⟩;have u:Aside0 (Below w.heap.size w C):=⟨by rw [← hq_];exact zB⟩;clear d HB hq_;have d:=s;have HB:=u;clear s u))) | ((with_reducible refine zgc 99 ?_);refine zGL 24 Tryz.func99 #[.string b,.string (⟨#[32]⟩:ByteArray),.int .i64 (wrap64 (a+2))] ?_;(with_reducible refine (g16find.calls k b (⟨#[32]⟩:ByteArray) (wrap64 (a+2)) g _ ah.out).mono ?_);rintro e w' ⟨rfl,⟨nd,rfl⟩⟩;refine ⟨_,rfl,?_⟩;(try (rw [drewN_self C];generalize hq_:World.drewN C _=C;have s:Aside0 (C.heap[p]? = some (.cells #[.string (⟨#[]⟩:ByteArray),.string (⟨#[]⟩:ByteArray),.int .i64 0,.int .i64 0] 51 (0,0))):=⟨by rw [← hq_];exact (zb d)⟩;have u:Aside0 (Below w.heap.size w C):=⟨by rw [← hq_];exact zB⟩;clear d HB hq_;have d:=s;have HB:=u;clear s u)))));replace d:=Aside0.mk (blk_drew d.out);replace HB:=Aside0.mk (below_drew1 HB.out);refine start_ (n:=11) (S:=fun w'=>True) (ds:=[]) (bm 11 0) (by kernel_rfl) rfl rfl trivial (fun hHeld=>?_);refine with_tabW g16ParseWho.tab10 g16ParseWho.bits10 (fun HT_ HW_=>?_);generalize C.drew=bP at d HB hHeld ⊢;refine zPu 0 28 1 ?_;refine zPu 1 29 3 ?_;refine zPu 2 30 7 ?_;refine zPu 3 31 15 ?_;refine zPu 4 32 31 ?_;refine zPu 5 33 63 ?_;refine zPu 6 34 127 ?_;refine zPu 7 35 255 ?_;refine zPu 8 36 511 ?_;refine zOn 9 7 1023 fun K hK=>?_;refine box_step ?hg (N:=7) ?hd (cs:=#[.string (⟨#[]⟩:ByteArray),.string (⟨#[]⟩:ByteArray),.int .i64 0,.int .i64 0]) (t:=51) ?hr ?_;(case hd=>rfl);(case hg=>rfl);(case hr=>first | (go_simp;done) | (go_simp;rfl));intro ab hg bQ hbox hb;have l:=Aside0.mk (hbox);have bj:=zGE HB hg;have bk:=zGE HB hg;replace HB:=zbs HB hb;have q:=zNl d hg;have r:=zNg d hg;replace d:=zkb d hb;clear hb hbox hg;refine hK.out _ _ trivial (fun hHeld=>?_);clear hK K;refine norm_ (a':=?_) ?_ ?_;rotate_left
     ·show Act.put _ (some 7) _=_;simp only [Act.put,List.setIfInBounds_toArray,List.set_cons_zero,List.set_cons_succ,i64_w,i32_w];rfl
     refine one_ (i:=10) (N:=none) (bm 11 2047) rfl rfl (one_of HT_.out (by kernel_rfl)) (by decide) (fun K hK=>?_);have hs28:=zCz l 0 (.string (⟨#[]⟩:ByteArray));have hfs28:=zCf l 0;have a1:=q.out;have a2:=r.out;have hs29:=zCz l 1 (.string (⟨#[]⟩:ByteArray));have hfs29:=zCf l 1;have a3:=q.out;have a4:=r.out;have hs30:=zCz l 2 (.int .i64 0);have hfs30:=zCf l 2;have a5:=q.out;have a6:=r.out;have hs31:=zCz l 3 (.int .i64 0);have hfs31:=zCf l 3;have a7:=q.out;have a8:=r.out;refine skip_ (w1:=?_) (by rfl) rfl ?_ ?_;rotate_left
     ·go_simp;rfl
     refine hK.out _ _ trivial (fun hHeld=>?_);clear hK K;refine done_ (done_of HT_.out (by kernel_rfl)) ?_;go_upto_region 12 with (first | ((with_reducible refine zgc 127 ?_);refine goesL_ (some 42) rfl rfl Tryz.func127 (by kernel_rfl) rfl #[.string (b.extract ((V):Int).toNat b.size)] rfl (by (try simp only [List.map_toArray,List.map_cons,List.map_nil]);first | done | (simp only [D];rfl) | rfl | (simp only [List.length_drop,List.length_take];rfl)) ?_;(with_reducible refine (g16zone.calls k (b.extract ((V):Int).toNat b.size) m aw _ bd.out).mono ?_);rintro e w' ⟨rfl,⟨nd,rfl⟩⟩;refine ⟨_,rfl,?_⟩));(try simp only [Act.put,List.setIfInBounds_toArray,List.set_cons_zero,List.set_cons_succ]);go_cut [79] (fun be wc=>∃ (kq:Nat) (U:Bool),be=.bool U∧Aside0 (g16ParseWho.j0 kq b a g m U (b.extract 0 (c:Int).toNat) (b.extract ((j):Int).toNat (a:Int).toNat) 0 0=some (M,O,Q,R,T))∧Aside0 (kq≤k)∧Aside0 (wc.heap[p]? = some (.cells #[.string (⟨#[]⟩:ByteArray),.string (⟨#[]⟩:ByteArray),.int .i64 0,.int .i64 0] 51 (0,0)))∧Aside0 (wc.heap[ab]? = some (.cells #[.string (b.extract 0 (c:Int).toNat),.string (b.extract ((j):Int).toNat (a:Int).toNat),.int .i64 0,.int .i64 0] 51 (0,0)))∧Aside0 (Below w.heap.size w wc))
     case first =>
      have H:=ag.out;clear ag;by_cases ac:aw=true
      ·subst ac;have H1:(if 0≤(wrap64 (a+2)) then (if (wrap64 (a+2))≤g then (if g≤(b.size:Int) then ((g16Digits.f k (b.extract ((wrap64 (a+2)):Int).toNat (g:Int).toNat)).bind fun E=>(if E=true then ((g16find.f k (b.extract 0 (c:Int).toNat) (⟨#[60]⟩:ByteArray) 0).bind fun v=>(if v≥0 then (g16ParseWho.j0 k b a g m true (b.extract 0 (c:Int).toNat) (b.extract ((j):Int).toNat (a:Int).toNat) 0 0) else ((g16find.f k (b.extract 0 (c:Int).toNat) (⟨#[62]⟩:ByteArray) 0).bind fun y=>(if y≥0 then (g16ParseWho.j0 k b a g m true (b.extract 0 (c:Int).toNat) (b.extract ((j):Int).toNat (a:Int).toNat) 0 0) else ((g16find.f k (b.extract ((j):Int).toNat (a:Int).toNat) (⟨#[60]⟩:ByteArray) 0).bind fun z=>(if z≥0 then (g16ParseWho.j0 k b a g m true (b.extract 0 (c:Int).toNat) (b.extract ((j):Int).toNat (a:Int).toNat) 0 0) else ((g16find.f k (b.extract ((j):Int).toNat (a:Int).toNat) (⟨#[62]⟩:ByteArray) 0).bind fun A=>(g16ParseWho.j0 k b a g m (decide (A≥0)) (b.extract 0 (c:Int).toNat) (b.extract ((j):Int).toNat (a:Int).toNat) 0 0)))))))) else (g16ParseWho.j0 k b a g m true (b.extract 0 (c:Int).toNat) (b.extract ((j):Int).toNat (a:Int).toNat) 0 0))) else (none)) else (none)) else (none))=some (M,O,Q,R,T):=by rw [if_pos rfl] at H;exact H
       clear H;have H:=H1;clear H1;obtain ⟨G,aj⟩:=zj (α:=Int) (wrap64 (a+2));replace H:(if 0≤(G) then (if (G)≤g then (if g≤(b.size:Int) then ((g16Digits.f k (b.extract ((G):Int).toNat (g:Int).toNat)).bind fun E=>(if E=true then ((g16find.f k (b.extract 0 (c:Int).toNat) (⟨#[60]⟩:ByteArray) 0).bind fun v=>(if v≥0 then (g16ParseWho.j0 k b a g m true (b.extract 0 (c:Int).toNat) (b.extract ((j):Int).toNat (a:Int).toNat) 0 0) else ((g16find.f k (b.extract 0 (c:Int).toNat) (⟨#[62]⟩:ByteArray) 0).bind fun y=>(if y≥0 then (g16ParseWho.j0 k b a g m true (b.extract 0 (c:Int).toNat) (b.extract ((j):Int).toNat (a:Int).toNat) 0 0) else ((g16find.f k (b.extract ((j):Int).toNat (a:Int).toNat) (⟨#[60]⟩:ByteArray) 0).bind fun z=>(if z≥0 then (g16ParseWho.j0 k b a g m true (b.extract 0 (c:Int).toNat) (b.extract ((j):Int).toNat (a:Int).toNat) 0 0) else ((g16find.f k (b.extract ((j):Int).toNat (a:Int).toNat) (⟨#[62]⟩:ByteArray) 0).bind fun A=>(g16ParseWho.j0 k b a g m (decide (A≥0)) (b.extract 0 (c:Int).toNat) (b.extract ((j):Int).toNat (a:Int).toNat) 0 0)))))))) else (g16ParseWho.j0 k b a g m true (b.extract 0 (c:Int).toNat) (b.extract ((j):Int).toNat (a:Int).toNat) 0 0))) else (none)) else (none)) else (none))=some (M,O,Q,R,T):=zJ aj H;have bf:(IntKind.i64.wrap (a+2))=G:=(i64_w _).trans aj;replace H:=zen H;obtain ⟨aM,aN,H⟩:=H;replace H:=zen H;obtain ⟨aO,aP,H⟩:=H;replace H:=zen H;obtain ⟨aQ,aR,H⟩:=H;replace H:=zbd H;obtain ⟨E,ad,H⟩:=H;by_cases ae:E=true
       ·subst ae;have H1:((g16find.f k (b.extract 0 (c:Int).toNat) (⟨#[60]⟩:ByteArray) 0).bind fun v=>(if v≥0 then (g16ParseWho.j0 k b a g m true (b.extract 0 (c:Int).toNat) (b.extract ((j):Int).toNat (a:Int).toNat) 0 0) else ((g16find.f k (b.extract 0 (c:Int).toNat) (⟨#[62]⟩:ByteArray) 0).bind fun y=>(if y≥0 then (g16ParseWho.j0 k b a g m true (b.extract 0 (c:Int).toNat) (b.extract ((j):Int).toNat (a:Int).toNat) 0 0) else ((g16find.f k (b.extract ((j):Int).toNat (a:Int).toNat) (⟨#[60]⟩:ByteArray) 0).bind fun z=>(if z≥0 then (g16ParseWho.j0 k b a g m true (b.extract 0 (c:Int).toNat) (b.extract ((j):Int).toNat (a:Int).toNat) 0 0) else ((g16find.f k (b.extract ((j):Int).toNat (a:Int).toNat) (⟨#[62]⟩:ByteArray) 0).bind fun A=>(g16ParseWho.j0 k b a g m (decide (A≥0)) (b.extract 0 (c:Int).toNat) (b.extract ((j):Int).toNat (a:Int).toNat) 0 0))))))))=some (M,O,Q,R,T):=by rw [if_pos rfl] at H;exact H
        clear H;have H:=H1;clear H1;replace H:=zbd H;obtain ⟨v,ak,H⟩:=H;replace H:=zdd H;rcases H with ⟨J,H⟩ | ⟨J,H⟩
        ·(first | rw [J] | (simp only [i64_w,i32_w];rw [J]) | skip);have H':=Aside0.mk H;clear H;go_wp2_with (first | (go_at_call 128;(with_reducible refine (g16Digits.calls k (b.extract ((G):Int).toNat (g:Int).toNat) true _ ad.out).mono ?_);rintro e w' ⟨rfl,⟨nd,rfl⟩⟩;have bl:=r.out;have bn:=q.out;have aW:=zF4 l) | (go_at_call 99;(with_reducible refine (g16find.calls k (b.extract 0 (c:Int).toNat) (⟨#[60]⟩:ByteArray) 0 v _ ak.out).mono ?_);rintro e w' ⟨rfl,⟨nd,rfl⟩⟩));go_meet
         case rel=>exact ⟨_,(true),zE,H',⟨by first | omega | exact Nat.le_refl _⟩,⟨(zc d)⟩,⟨(zc l)⟩,⟨zB⟩⟩
        ·(first | rw [J] | (simp only [i64_w,i32_w];rw [J]) | skip);replace H:=zbd H;obtain ⟨y,ax,H⟩:=H;replace H:=zdd H;rcases H with ⟨al,H⟩ | ⟨al,H⟩
         ·have H':=Aside0.mk H;clear H;go_wp2_with (first | (go_at_call 128;(with_reducible refine (g16Digits.calls k (b.extract ((G):Int).toNat (g:Int).toNat) true _ ad.out).mono ?_);rintro e w' ⟨rfl,⟨nd,rfl⟩⟩;have bo:=r.out;have bp:=q.out;have aX:=zF4 l) | (go_at_call 99;(with_reducible refine (g16find.calls k (b.extract 0 (c:Int).toNat) (⟨#[60]⟩:ByteArray) 0 v _ ak.out).mono ?_);rintro e w' ⟨rfl,⟨nd,rfl⟩⟩) | (go_at_call 99;(with_reducible refine (g16find.calls k (b.extract 0 (c:Int).toNat) (⟨#[62]⟩:ByteArray) 0 y _ ax.out).mono ?_);rintro e w' ⟨rfl,⟨nd,rfl⟩⟩));go_meet
          case rel=>exact ⟨_,(true),zE,H',⟨by first | omega | exact Nat.le_refl _⟩,⟨(zc d)⟩,⟨(zc l)⟩,⟨zB⟩⟩
         ·replace H:=zbd H;obtain ⟨z,aS,H⟩:=H;replace H:=zdd H;rcases H with ⟨am,H⟩ | ⟨am,H⟩
          ·have H':=Aside0.mk H;clear H;go_wp2_with (first | (go_at_call 128;(with_reducible refine (g16Digits.calls k (b.extract ((G):Int).toNat (g:Int).toNat) true _ ad.out).mono ?_);rintro e w' ⟨rfl,⟨nd,rfl⟩⟩;have bq:=r.out;have br:=q.out;have aY:=zF4 l) | (go_at_call 99;(with_reducible refine (g16find.calls k (b.extract 0 (c:Int).toNat) (⟨#[60]⟩:ByteArray) 0 v _ ak.out).mono ?_);rintro e w' ⟨rfl,⟨nd,rfl⟩⟩) | (go_at_call 99;(with_reducible refine (g16find.calls k (b.extract 0 (c:Int).toNat) (⟨#[62]⟩:ByteArray) 0 y _ ax.out).mono ?_);rintro e w' ⟨rfl,⟨nd,rfl⟩⟩) | (go_at_call 99;(with_reducible refine (g16find.calls k (b.extract ((j):Int).toNat (a:Int).toNat) (⟨#[60]⟩:ByteArray) 0 z _ aS.out).mono ?_);rintro e w' ⟨rfl,⟨nd,rfl⟩⟩));go_meet
           case rel=>exact ⟨_,(true),zE,H',⟨by first | omega | exact Nat.le_refl _⟩,⟨(zc d)⟩,⟨(zc l)⟩,⟨zB⟩⟩
          ·replace H:=zbd H;obtain ⟨A,bg,H⟩:=H;have H':=Aside0.mk H;clear H;go_wp2_with (first | (go_at_call 128;(with_reducible refine (g16Digits.calls k (b.extract ((G):Int).toNat (g:Int).toNat) true _ ad.out).mono ?_);rintro e w' ⟨rfl,⟨nd,rfl⟩⟩;have bs:=r.out;have bt:=q.out;have aZ:=zF4 l) | (go_at_call 99;(with_reducible refine (g16find.calls k (b.extract 0 (c:Int).toNat) (⟨#[60]⟩:ByteArray) 0 v _ ak.out).mono ?_);rintro e w' ⟨rfl,⟨nd,rfl⟩⟩) | (go_at_call 99;(with_reducible refine (g16find.calls k (b.extract 0 (c:Int).toNat) (⟨#[62]⟩:ByteArray) 0 y _ ax.out).mono ?_);rintro e w' ⟨rfl,⟨nd,rfl⟩⟩) | (go_at_call 99;(with_reducible refine (g16find.calls k (b.extract ((j):Int).toNat (a:Int).toNat) (⟨#[60]⟩:ByteArray) 0 z _ aS.out).mono ?_);rintro e w' ⟨rfl,⟨nd,rfl⟩⟩) | (go_at_call 99;(with_reducible refine (g16find.calls k (b.extract ((j):Int).toNat (a:Int).toNat) (⟨#[62]⟩:ByteArray) 0 A _ bg.out).mono ?_);rintro e w' ⟨rfl,⟨nd,rfl⟩⟩));go_meet
           case rel=>exact ⟨_,(decide (A≥0)),zE,H',⟨by first | omega | exact Nat.le_refl _⟩,⟨(zc d)⟩,⟨(zc l)⟩,⟨zB⟩⟩
       ·replace ae:=Bool.eq_false_iff.mpr ae;subst ae;have H1:(g16ParseWho.j0 k b a g m true (b.extract 0 (c:Int).toNat) (b.extract ((j):Int).toNat (a:Int).toNat) 0 0)=some (M,O,Q,R,T):=by rw [if_neg (show ¬ (false=true) by decide)] at H;exact H
        clear H;have H:=H1;clear H1;have H':=Aside0.mk H;clear H;go_wp2_with (first | (go_at_call 128;(with_reducible refine (g16Digits.calls k (b.extract ((G):Int).toNat (g:Int).toNat) false _ ad.out).mono ?_);rintro e w' ⟨rfl,⟨nd,rfl⟩⟩));go_meet
        case rel=>exact ⟨_,(true),zE,H',⟨by first | omega | exact Nat.le_refl _⟩,⟨(zc d)⟩,⟨(zc l)⟩,⟨zB⟩⟩
      ·replace ac:=Bool.eq_false_iff.mpr ac;subst ac;have H1:(g16ParseWho.j0 k b a g m true (b.extract 0 (c:Int).toNat) (b.extract ((j):Int).toNat (a:Int).toNat) 0 0)=some (M,O,Q,R,T):=by rw [if_neg (show ¬ (false=true) by decide)] at H;exact H
       clear H;have H:=H1;clear H1;have H':=Aside0.mk H;clear H;go_wp2;go_meet
       case rel=>exact ⟨_,(true),zE,H',⟨by first | omega | exact Nat.le_refl _⟩,⟨(zc d)⟩,⟨(zc l)⟩,⟨zB⟩⟩
     case rest =>
      clear ag aq av ai ay az aA aB aC aD aE aF aG aH aI aJ aK aL;obtain ⟨kq,U,rfl,HA,bI,d,l,HB⟩:=hcut;cases kq with
      | zero=>exact absurd HA.out (by simp [g16ParseWho.j0])
      | succ kj23 =>
       have H:=HA.out;clear HA;simp only [g16ParseWho.j0] at H;by_cases an:U=true
       ·subst an;have H1:(some ((⟨#[]⟩:ByteArray),(⟨#[]⟩:ByteArray),0,0,2))=some (M,O,Q,R,T):=by rw [if_pos rfl] at H;exact H
        clear H;have H:=H1;clear H1;simp only [Option.some.injEq,Prod.mk.injEq] at H;obtain ⟨rfl,rfl,rfl,rfl,rfl⟩:=H;have bu:=q.out;have bv:=r.out;have bJ:=zF4 d;go_wp2;refine bodyPost_ret (results_ct rfl _ _ p 51 #[.string (⟨#[]⟩:ByteArray),.string (⟨#[]⟩:ByteArray),.int .i64 0,.int .i64 0] (0,0) _ rfl (zc d) Tryz.underlying51 rfl (by kernel_rfl)) rfl ?_;exact ⟨by first | rfl | (simp [errW_none,errW_some]<;>rfl) | (simp only [← B,← D];first | rfl | (simp [errW_none,errW_some]<;>rfl)) | (simp [*,errW_none,errW_some]<;>rfl),zB⟩
       ·replace an:=Bool.eq_false_iff.mpr an;subst an;have H1:(if 0≤(wrap64 (a+2)) then (if (wrap64 (a+2))≤g then (if g≤(b.size:Int) then ((g16Value.f kj23 (b.extract ((wrap64 (a+2)):Int).toNat (g:Int).toNat)).bind fun x=>((g16Person.f kj23 (b.extract 0 (c:Int).toNat) (b.extract ((j):Int).toNat (a:Int).toNat) x m).bind fun W=>(if W=true then (some ((b.extract 0 (c:Int).toNat),(b.extract ((j):Int).toNat (a:Int).toNat),x,m,0)) else (some ((⟨#[]⟩:ByteArray),(⟨#[]⟩:ByteArray),0,0,1))))) else (none)) else (none)) else (none))=some (M,O,Q,R,T):=by rw [if_neg (show ¬ (false=true) by decide)] at H;exact H
        clear H;have H:=H1;clear H1;obtain ⟨I,L⟩:=zj (α:=Int) (wrap64 (a+2));replace H:(if 0≤(I) then (if (I)≤g then (if g≤(b.size:Int) then ((g16Value.f kj23 (b.extract ((I):Int).toNat (g:Int).toNat)).bind fun x=>((g16Person.f kj23 (b.extract 0 (c:Int).toNat) (b.extract ((j):Int).toNat (a:Int).toNat) x m).bind fun W=>(if W=true then (some ((b.extract 0 (c:Int).toNat),(b.extract ((j):Int).toNat (a:Int).toNat),x,m,0)) else (some ((⟨#[]⟩:ByteArray),(⟨#[]⟩:ByteArray),0,0,1))))) else (none)) else (none)) else (none))=some (M,O,Q,R,T):=zJ L H;have bh:(IntKind.i64.wrap (a+2))=I:=(i64_w _).trans L;replace H:=zen H;obtain ⟨bw,bx,H⟩:=H;replace H:=zen H;obtain ⟨bz,bA,H⟩:=H;replace H:=zen H;obtain ⟨bB,bC,H⟩:=H;replace H:=zbd H;obtain ⟨x,aT,H⟩:=H;replace H:=zbd H;obtain ⟨W,aU,H⟩:=H;by_cases ao:W=true
        ·subst ao;have H1:(some ((b.extract 0 (c:Int).toNat),(b.extract ((j):Int).toNat (a:Int).toNat),x,m,0))=some (M,O,Q,R,T):=by rw [if_pos rfl] at H;exact H
         clear H;have H:=H1;clear H1;simp only [Option.some.injEq,Prod.mk.injEq] at H;obtain ⟨rfl,rfl,rfl,rfl,rfl⟩:=H;go_wp2_with (first | ((with_reducible refine zgc 129 ?_);refine goesL_ (some 86) rfl rfl Tryz.func129 (by kernel_rfl) rfl #[.string (b.extract ((I):Int).toNat (g:Int).toNat)] rfl (by (try simp only [List.map_toArray,List.map_cons,List.map_nil]);first | done | (simp only [L];rfl) | rfl | (simp only [List.length_drop,List.length_take];rfl)) ?_;(with_reducible refine (g16Value.calls kj23 (b.extract ((I):Int).toNat (g:Int).toNat) x _ aT.out).mono ?_);rintro e w' ⟨rfl,⟨nd,rfl⟩⟩;refine ⟨_,rfl,?_⟩;(try (rw [drewN_self wc];generalize hq_:World.drewN wc _=wc;have s:Aside0 (wc.heap[p]? = some (.cells #[.string (⟨#[]⟩:ByteArray),.string (⟨#[]⟩:ByteArray),.int .i64 0,.int .i64 0] 51 (0,0))):=⟨by rw [← hq_];exact (zb d)⟩;have u:Aside0 (wc.heap[ab]? = some (.cells #[.string (b.extract 0 (c:Int).toNat),.string (b.extract ((j):Int).toNat (a:Int).toNat),.int .i64 0,.int .i64 0] 51 (0,0))):=⟨by rw [← hq_];exact (zb l)⟩;have af:Aside0 (Below w.heap.size w wc):=⟨by rw [← hq_];exact zB⟩;clear d l HB hq_;have d:=s;have l:=u;have HB:=af;clear s u af));have bD:=r.out;have bE:=q.out;have bK:=zF4 l) | ((with_reducible refine zgc 59 ?_);refine goesL_ (some 91) rfl rfl Tryz.func59 (by kernel_rfl) rfl #[.agg #[.string (b.extract 0 (c:Int).toNat),.string (b.extract ((j):Int).toNat (a:Int).toNat),.int .i64 x,.int .i64 m]] rfl (by (try simp only [List.map_toArray,List.map_cons,List.map_nil]);first | done | (simp only [B];rfl) | rfl | (simp only [List.length_drop,List.length_take];rfl)) ?_;(with_reducible refine (g16Person.calls kj23 (b.extract 0 (c:Int).toNat) (b.extract ((j):Int).toNat (a:Int).toNat) x m true _ aU.out).mono ?_);rintro e ca ⟨rfl,hb⟩;refine ⟨_,rfl,?_⟩;replace d:=zkc (.cells #[.string (⟨#[]⟩:ByteArray),.string (⟨#[]⟩:ByteArray),.int .i64 0,.int .i64 0] 51 (0,0)) d hb;replace l:=zkc (.cells #[.string (b.extract 0 (c:Int).toNat),.string (b.extract ((j):Int).toNat (a:Int).toNat),.int .i64 x,.int .i64 m] 51 (0,0)) l hb;replace HB:=zbs HB hb;clear hb;have bL:=zF4 l;have bM:=zF4 d));refine bodyPost_ret (results_ct rfl _ _ p 51 #[.string (b.extract 0 (c:Int).toNat),.string (b.extract ((j):Int).toNat (a:Int).toNat),.int .i64 x,.int .i64 m] (0,0) _ rfl (zc d) Tryz.underlying51 rfl (by kernel_rfl)) rfl ?_;exact ⟨by first | rfl | (simp [errW_none,errW_some]<;>rfl) | (simp only [← B,← D,← L];first | rfl | (simp [errW_none,errW_some]<;>rfl)) | (simp [*,errW_none,errW_some]<;>rfl),zB⟩
        ·replace ao:=Bool.eq_false_iff.mpr ao;subst ao;have H1:(some ((⟨#[]⟩:ByteArray),(⟨#[]⟩:ByteArray),0,0,1))=some (M,O,Q,R,T):=by rw [if_neg (show ¬ (false=true) by decide)] at H;exact H
         clear H;have H:=H1;clear H1;simp only [Option.some.injEq,Prod.mk.injEq] at H;obtain ⟨rfl,rfl,rfl,rfl,rfl⟩:=H;go_wp2_with (first | ((with_reducible refine zgc 129 ?_);refine goesL_ (some 86) rfl rfl Tryz.func129 (by kernel_rfl) rfl #[.string (b.extract ((I):Int).toNat (g:Int).toNat)] rfl (by (try simp only [List.map_toArray,List.map_cons,List.map_nil]);first | done | (simp only [L];rfl) | rfl | (simp only [List.length_drop,List.length_take];rfl)) ?_;(with_reducible refine (g16Value.calls kj23 (b.extract ((I):Int).toNat (g:Int).toNat) x _ aT.out).mono ?_);rintro e w' ⟨rfl,⟨nd,rfl⟩⟩;refine ⟨_,rfl,?_⟩;(try (rw [drewN_self wc];generalize hq_:World.drewN wc _=wc;have s:Aside0 (wc.heap[p]? = some (.cells #[.string (⟨#[]⟩:ByteArray),.string (⟨#[]⟩:ByteArray),.int .i64 0,.int .i64 0] 51 (0,0))):=⟨by rw [← hq_];exact (zb d)⟩;have u:Aside0 (wc.heap[ab]? = some (.cells #[.string (b.extract 0 (c:Int).toNat),.string (b.extract ((j):Int).toNat (a:Int).toNat),.int .i64 0,.int .i64 0] 51 (0,0))):=⟨by rw [← hq_];exact (zb l)⟩;have af:Aside0 (Below w.heap.size w wc):=⟨by rw [← hq_];exact zB⟩;clear d l HB hq_;have d:=s;have l:=u;have HB:=af;clear s u af));have bF:=r.out;have bG:=q.out;have bN:=zF4 l) | ((with_reducible refine zgc 59 ?_);refine goesL_ (some 91) rfl rfl Tryz.func59 (by kernel_rfl) rfl #[.agg #[.string (b.extract 0 (c:Int).toNat),.string (b.extract ((j):Int).toNat (a:Int).toNat),.int .i64 x,.int .i64 m]] rfl (by (try simp only [List.map_toArray,List.map_cons,List.map_nil]);first | done | (simp only [B];rfl) | rfl | (simp only [List.length_drop,List.length_take];rfl)) ?_;(with_reducible refine (g16Person.calls kj23 (b.extract 0 (c:Int).toNat) (b.extract ((j):Int).toNat (a:Int).toNat) x m false _ aU.out).mono ?_);rintro e cb ⟨rfl,hb⟩;refine ⟨_,rfl,?_⟩;replace d:=zkc (.cells #[.string (⟨#[]⟩:ByteArray),.string (⟨#[]⟩:ByteArray),.int .i64 0,.int .i64 0] 51 (0,0)) d hb;replace l:=zkc (.cells #[.string (b.extract 0 (c:Int).toNat),.string (b.extract ((j):Int).toNat (a:Int).toNat),.int .i64 x,.int .i64 m] 51 (0,0)) l hb;replace HB:=zbs HB hb;clear hb;have bO:=zF4 d));refine bodyPost_ret (results_ct rfl _ _ p 51 #[.string (⟨#[]⟩:ByteArray),.string (⟨#[]⟩:ByteArray),.int .i64 0,.int .i64 0] (0,0) _ rfl (zc d) Tryz.underlying51 rfl (by kernel_rfl)) rfl ?_;exact ⟨by first | rfl | (simp [errW_none,errW_some]<;>rfl) | (simp only [← B,← D,← L];first | rfl | (simp [errW_none,errW_some]<;>rfl)) | (simp [*,errW_none,errW_some]<;>rfl),zB⟩
    ·rw [if_neg Y] at H;exact absurd H (by simp)
def g16who.j0:Nat→Int→Bool→ByteArray→ByteArray→Int→Int→Option (ByteArray × ByteArray × Int × Int × Int)
 | 0,_,_,_,_,_,_=>none
 | k+1,f,e,a,b,c,d=>if e=true then (some (a,b,c,d,0)) else (if f=0 then (some (a,b,c,d,2)) else (some (a,b,c,d,1)))
def g16who.f (k:Nat) (b:ByteArray) (c:Bool):Option (ByteArray × ByteArray × Int × Int × Int):=(g16ParseWho.f k b).bind fun a=>(if c=true then (g16who.j0 k a.2.2.2.2 (a.2.2.2.2 == 2) a.1 a.2.1 a.2.2.1 a.2.2.2.1) else (g16who.j0 k a.2.2.2.2 true a.1 a.2.1 a.2.2.1 a.2.2.2.1))
set_option maxHeartbeats 8000000 in
set_option maxRecDepth 100000 in
theorem g16who.calls (k:Nat) (B:ByteArray) (D:Bool) (s:ByteArray) (u:ByteArray) (v:Int) (x:Int) (y:Int) (w:World) (h:g16who.f k B D=some (s,u,v,x,y)) :
  Calls Tryz.prog 77 #[.string B,.bool D] w fun e w'=>e=.returned (.tuple #[.agg #[.string s,.string u,.int .i64 v,.int .i64 x],.int .i64 y])∧Below w.heap.size w w':=by
 have Y:=Tryz.underlying51;have HB:=Aside0.mk (Below.refl w.heap.size w);have H:((g16ParseWho.f k B).bind fun b=>(if D=true then (g16who.j0 k b.2.2.2.2 (b.2.2.2.2 == 2) b.1 b.2.1 b.2.2.1 b.2.2.2.1) else (g16who.j0 k b.2.2.2.2 true b.1 b.2.1 b.2.2.1 b.2.2.2.1)))=some (s,u,v,x,y):=h;clear h;replace H:=zbd H;obtain ⟨⟨c,d,g,j,p⟩,Z,H⟩:=H;dsimp only at H;have C:=Aside0.mk H;clear H;go_enter Tryz.func77,Tryz.ntmps77;go_upto_region 2 with (first | ((with_reducible refine zgd 4 ?_);refine zBx 4 #[.string (⟨#[]⟩:ByteArray),.string (⟨#[]⟩:ByteArray),.int .i64 0,.int .i64 0] 51 ?_;intro q hg w5 hbox hb;have a:=Aside0.mk (hbox);have L:=zGE HB hg;have M:=zGE HB hg;replace HB:=zbs HB hb;clear hb hbox hg) | ((with_reducible refine zgc 100 ?_);refine zGL 10 Tryz.func100 #[.string B] ?_;(with_reducible refine (g16ParseWho.calls k B c d g j p _ Z.out).mono ?_);rintro e w6 ⟨rfl,hb⟩;refine ⟨_,rfl,?_⟩;replace a:=zkb a hb;replace HB:=zbs HB hb;clear hb) | ((with_reducible refine zgd 6 ?_);refine zBx 6 #[.string (⟨#[]⟩:ByteArray),.string (⟨#[]⟩:ByteArray),.int .i64 0,.int .i64 0] 51 ?_;intro E hg w7 hbox hb;have o:=Aside0.mk (hbox);have O:=zGE HB hg;have Q:=zGE HB hg;replace HB:=zbs HB hb;have l:=zNl a hg;have m:=zNg a hg;replace a:=zkb a hb;clear hb hbox hg;have aa:=m.out;have ab:=l.out;have I:=zF4 o));(try simp only [Act.put,List.setIfInBounds_toArray,List.set_cons_zero,List.set_cons_succ]);go_cut [18] (fun J wc=>∃ (kq:Nat) (r:Bool),J=.bool r∧Aside0 (g16who.j0 kq p r c d g j=some (s,u,v,x,y))∧Aside0 (kq≤k)∧Aside0 (wc.heap[q]? = some (.cells #[.string (⟨#[]⟩:ByteArray),.string (⟨#[]⟩:ByteArray),.int .i64 0,.int .i64 0] 51 (0,0)))∧Aside0 (wc.heap[E]? = some (.cells #[.string c,.string d,.int .i64 g,.int .i64 j] 51 (0,0)))∧Aside0 (Below w.heap.size w wc))
 case first =>
  have H:=C.out;clear C;by_cases z:D=true
  ·subst z;have H1:(g16who.j0 k p (p == 2) c d g j)=some (s,u,v,x,y):=by rw [if_pos rfl] at H;exact H
   clear H;have H:=H1;clear H1;have H':=Aside0.mk H;clear H;go_wp2;go_meet
   case rel=>exact ⟨_,((p == 2)),zE,H',⟨by first | omega | exact Nat.le_refl _⟩,⟨(zc a)⟩,⟨(zc o)⟩,⟨zB⟩⟩
  ·replace z:=Bool.eq_false_iff.mpr z;subst z;have H1:(g16who.j0 k p true c d g j)=some (s,u,v,x,y):=by rw [if_neg (show ¬ (false=true) by decide)] at H;exact H
   clear H;have H:=H1;clear H1;have H':=Aside0.mk H;clear H;go_wp2;go_meet
   case rel=>exact ⟨_,(true),zE,H',⟨by first | omega | exact Nat.le_refl _⟩,⟨(zc a)⟩,⟨(zc o)⟩,⟨zB⟩⟩
 case rest =>
  clear C I;obtain ⟨kq,r,rfl,HA,aj,a,o,HB⟩:=hcut;cases kq with
  | zero=>exact absurd HA.out (by simp [g16who.j0])
  | succ kj3 =>
   have H:=HA.out;clear HA;simp only [g16who.j0] at H;by_cases A:r=true
   ·subst A;have H1:(some (c,d,g,j,0))=some (s,u,v,x,y):=by rw [if_pos rfl] at H;exact H
    clear H;have H:=H1;clear H1;simp only [Option.some.injEq,Prod.mk.injEq] at H;obtain ⟨rfl,rfl,rfl,rfl,rfl⟩:=H;have R:=m.out;have T:=l.out;have ac:=zF4 o;have ad:=zF4 a;go_wp2;refine bodyPost_ret (results_ct rfl _ _ q 51 #[.string c,.string d,.int .i64 g,.int .i64 j] (0,0) _ rfl (zc a) Tryz.underlying51 rfl (by kernel_rfl)) rfl ?_;exact ⟨zW,zB⟩
   ·replace A:=Bool.eq_false_iff.mpr A;subst A;have H1:(if p=0 then (some (c,d,g,j,2)) else (some (c,d,g,j,1)))=some (s,u,v,x,y):=by rw [if_neg (show ¬ (false=true) by decide)] at H;exact H
    clear H;have H:=H1;clear H1;replace H:=zbb H;rcases H with ⟨F,G,H⟩ | ⟨ak,F,G,H⟩
    ·simp only [Option.some.injEq,Prod.mk.injEq] at H;obtain ⟨rfl,rfl,rfl,rfl,rfl⟩:=H;have U:=m.out;have V:=l.out;have ae:=zF4 o;have af:=zF4 a;go_wp2;refine bodyPost_ret (results_ct rfl _ _ q 51 #[.string c,.string d,.int .i64 g,.int .i64 j] (0,0) _ rfl (zc a) Tryz.underlying51 rfl (by kernel_rfl)) rfl ?_;exact ⟨zW,zB⟩
    ·simp only [Option.some.injEq,Prod.mk.injEq] at H;obtain ⟨rfl,rfl,rfl,rfl,rfl⟩:=H;have W:=m.out;have X:=l.out;have ag:=zF4 o;have ah:=zF4 a;go_wp2;refine bodyPost_ret (results_ct rfl _ _ q 51 #[.string c,.string d,.int .i64 g,.int .i64 j] (0,0) _ rfl (zc a) Tryz.underlying51 rfl (by kernel_rfl)) rfl ?_;exact ⟨zW,zB⟩
end Go.Proofs.YtninnmdpnoebaaaGreatDoor.PRa
end
section
namespace Go.Proofs.YtninnmdpnoebaaaGreatDoor.Hand
open Go.RowKit Go.Proofs.YtninnmdpnoebaaaGreatDoorW.PrintWords Go.Proofs.YtninnmdpnoebaaaGreatDoorW.PrintLast Go.Proofs.YtninnmdpnoebaaaGreatDoorW.PrintMore
open Go.Proofs.YtninnmdpnoebaaaGreatDoor.PRa
set_option linter.unusedVariables false
set_option linter.unusedSimpArgs false
theorem digits_l0 (s:ByteArray) (hs:s.size≤1000000):∀ (k i:Nat),g16Digits.l0 k s (i:Int)=some true→∀ j,i≤j→j < s.size→48≤btN s j∧btN s j≤57
 | 0,i,h=>by simp [g16Digits.l0] at h
 | k+1,i,h=>fun j h1 h2=>by
  rw [g16Digits.l0,if_pos (by omega),if_pos (by omega)] at h;split at h
  ·simp at h
  split at h
  ·simp at h
  rename_i c1 c2
  rw [wrap64_id (by omega) (by omega),show ((i:Int)+1)=((i+1:Nat):Int) by omega] at h;by_cases cj:j=i
  ·subst cj;rw [bt_btN s j h2] at c1 c2;exact ⟨UInt8.le_iff_toNat_le.2 (by show 48≤_;omega),UInt8.le_iff_toNat_le.2 (by show _≤57;omega)⟩
  ·exact digits_l0 s hs k (i+1) h j (by omega) h2
theorem dig_of (k:Nat) (s:ByteArray) (h:g16Digits.f k s=some true):DigOk s:=by
 have key:∀ b,g16Digits.j0 k s b=some true→b=false∧∃ m,g16Digits.l0 m s 0=some true:=fun b h=>by
  cases k with
  | zero=>simp [g16Digits.j0] at h
  | succ k =>
   rw [g16Digits.j0] at h;cases b with
   | true=>simp at h
   | false=>exact ⟨rfl,k,by simpa using h⟩
 unfold g16Digits.f at h;split at h
 ·exact absurd (key _ h).1 (by simp)
 split at h
 ·exact absurd (key _ h).1 (by simp)
 rename_i c1 c2
 split at h
 ·rename_i c3
  rw [if_pos (by omega)] at h;obtain ⟨hb,m,hm⟩:=key _ h;have hb':((bt s ((0:Nat):Int)) == 48)=false:=hb;rw [bt_btN s 0 (by omega)] at hb';exact ⟨by omega,by omega,fun _ e=>by rw [e] at hb';exact absurd hb' (by decide),fun i hi=>digits_l0 s (by omega) m 0 hm i (Nat.zero_le _) hi⟩
 ·rename_i c3
  obtain ⟨_,m,hm⟩:=key _ h;exact ⟨by omega,by omega,fun h1=>by omega,fun i hi=>digits_l0 s (by omega) m 0 hm i (Nat.zero_le _) hi⟩
theorem value_l0 (s:ByteArray) (hs:s.size≤18) (hd:∀ i,i < s.size→48≤btN s i∧btN s i≤57):∀ (k i acc:Nat) (r:Int),i≤s.size→acc < 10 ^ i→g16Value.l0 k s (acc:Int) (i:Int)=some r→∃ n:Nat,r=(n:Int)∧Lib.decFrom acc ((ls s).drop i)=some n∧n < 10 ^ s.size
 | 0,i,acc,r,_,_,h=>by simp [g16Value.l0] at h
 | k+1,i,acc,r,hi,ha,h=>by
  rw [g16Value.l0] at h;by_cases c:i < s.size
  ·rw [if_pos (by omega),if_pos (by omega),bt_btN s i c] at h;obtain ⟨h1,h2⟩:=hd i c;have h1:=UInt8.le_iff_toNat_le.1 h1;have h2:=UInt8.le_iff_toNat_le.1 h2;have h1':48≤(btN s i).toNat:=h1;have h2':(btN s i).toNat≤57:=h2;have hp:10 ^ i≤10 ^ 17:=Nat.pow_le_pow_right (by decide) (by omega);have hp2:(10:Nat) ^ 17=100000000000000000:=by decide
   have hp3:10 ^ (i+1)=10 ^ i*10:=Nat.pow_succ 10 i;have hb:((ls s).drop i)=btN s i :: (ls s).drop (i+1):=by
    rw [List.drop_eq_getElem_cons (by rw [ls_len];exact c)];congr 1;simp [btN,ls,c]
   generalize (btN s i)=b at *
   rw [wrap64_id (n:=10*(acc:Int)) (by omega) (by omega),wrap64_id (n:=((b.toNat:Nat):Int)) (by omega) (by omega),wrap64_id (n:=10*(acc:Int)+(b.toNat:Nat)) (by omega) (by omega),wrap64_id (n:=10*(acc:Int)+(b.toNat:Nat) - 48) (by omega) (by omega),wrap64_id (n:=(i:Int)+1) (by omega) (by omega),
    show (10*(acc:Int)+(b.toNat:Nat) - 48)=((acc*10+(b.toNat - 48):Nat):Int) by omega,show ((i:Int)+1)=((i+1:Nat):Int) by omega] at h
   obtain ⟨n,e1,e2,e3⟩:=value_l0 s hs hd k (i+1) (acc*10+(b.toNat - 48)) r (by omega) (by omega) h;refine ⟨n,e1,?_,e3⟩;rw [hb,Lib.decFrom];have hv:Lib.digitVal b=some (b.toNat - 48):=by unfold Lib.digitVal;rw [if_pos ⟨h1',h2'⟩]
   rw [hv];exact e2
  ·rw [if_neg (by omega)] at h;obtain rfl:=Option.some.inj h;have:i=s.size:=by omega
   subst this;exact ⟨acc,rfl,by rw [List.drop_eq_nil_of_le (by rw [ls_len];exact Nat.le_refl _)];rfl,ha⟩
theorem value_of (s:ByteArray) (h0:1≤s.size) (hs:s.size≤18) (hd:∀ i,i < s.size→48≤btN s i∧btN s i≤57) (k:Nat) (r:Int) (h:g16Value.f k s=some r):Lib.atoi s.data.toList=some r∧0≤r∧r < 10 ^ s.size:=by
 obtain ⟨n,rfl,h2,h3⟩:=value_l0 s hs hd k 0 0 r (Nat.zero_le _) (by decide) h;rw [List.drop_zero] at h2;refine ⟨?_,by omega,by exact_mod_cast h3⟩;have hl:ls s=btN s 0 :: (ls s).drop 1:=by
  have:=List.drop_eq_getElem_cons (l:=ls s) (i:=0) (by rw [ls_len];omega);rw [List.drop_zero] at this;rw [this];congr 1;simp [btN,ls,show 0 < s.size by omega]
 obtain ⟨d1,d2⟩:=hd 0 (by omega);have d1:48≤(btN s 0).toNat:=UInt8.le_iff_toNat_le.1 d1;show Lib.atoi (ls s)=_;rw [hl,Lib.atoi,← hl];rw [if_neg (by simp;intro e;rw [e] at d1;exact absurd d1 (by decide)),if_neg (by simp;intro e;rw [e] at d1;exact absurd d1 (by decide))];unfold Lib.decNat;rw [if_neg (by rw [hl];simp),h2];rfl
theorem btN_extract (s:ByteArray) (i j t:Nat) (h:i+t < j) (hj:j≤s.size):btN (s.extract i j) t=btN s (i+t):=by
 have e:ls (s.extract i j)=((ls s).drop i).take (j - i):=ls_extract s i j;show (ls (s.extract i j)).getD t 0=(ls s).getD (i+t) 0;rw [e,List.getD_eq_getElem?_getD,List.getD_eq_getElem?_getD,List.getElem?_take,if_pos (by omega),List.getElem?_drop]
theorem size_ex (s:ByteArray) (i j:Nat) (hij:i≤j) (hj:j≤s.size):(s.extract i j).size=j - i:=by
 rw [← ls_len,ls_extract,List.length_take,List.length_drop,ls_len];omega
theorem zone_l0 (s:ByteArray) (hs:s.size=5) (z:Int):∀ (k i:Nat),1≤i→i≤5→g16zone.l0 k s (i:Int)=some (z,true)→(∀ j,i≤j→j < 5→48≤btN s j∧btN s j≤57) ∧
  ∃ m zh zm,g16Value.f m (s.extract 3 s.size)=some zm∧g16Value.f m (s.extract 1 3)=some zh∧zm < 60∧z=if bt s 0=45 then wrap64 (-(wrap64 ((wrap64 (60*zh))+zm))) else wrap64 ((wrap64 (60*zh))+zm)
 | 0,i,_,_,h=>by simp [g16zone.l0] at h
 | k+1,i,h1,h2,h=>by
  rw [g16zone.l0] at h;by_cases c:i < 5
  ·rw [if_pos (by omega),if_pos (by omega),if_pos (by omega)] at h;split at h
   ·simp at h
   split at h
   ·simp at h
   rename_i c1 c2
   rw [wrap64_id (by omega) (by omega),show ((i:Int)+1)=((i+1:Nat):Int) by omega] at h;obtain ⟨g1,g2⟩:=zone_l0 s hs z k (i+1) (by omega) (by omega) h;refine ⟨fun j hj1 hj2=>?_,g2⟩;by_cases cj:j=i
   ·subst cj;rw [bt_btN s j (by omega)] at c1 c2;exact ⟨UInt8.le_iff_toNat_le.2 (by show 48≤_;omega),UInt8.le_iff_toNat_le.2 (by show _≤57;omega)⟩
   ·exact g1 j (by omega) hj2
  ·rw [if_neg (by omega),if_pos (by omega)] at h;obtain ⟨zm,hm,h⟩:=Option.bind_eq_some_iff.1 h;split at h
   ·simp at h
   rename_i c1
   rw [if_pos (by omega)] at h;obtain ⟨zh,hh,h⟩:=Option.bind_eq_some_iff.1 h;rw [if_pos (by omega)] at h;refine ⟨fun j hj1 hj2=>by omega,k,zh,zm,hm,hh,by omega,?_⟩;split at h
   ·rename_i c2
    rw [if_pos c2];simpa using h.symm
   ·rename_i c2
    rw [if_neg c2];simpa using h.symm
theorem zone_of (k:Nat) (s:ByteArray) (z:Int) (h:g16zone.f k s=some (z,true)):∃ zh zm,ZoneOk s zh zm∧zoneQ s zh zm=z:=by
 have key:∀ b,g16zone.j0 k s b=some (z,true)→b=false∧∃ m,g16zone.l0 m s 1=some (z,true):=fun b h=>by
  cases k with
  | zero=>simp [g16zone.j0] at h
  | succ k =>
   rw [g16zone.j0] at h;cases b with
   | true=>simp at h
   | false=>exact ⟨rfl,k,by simpa using h⟩
 have fin:s.size=5→(btN s 0=43∨btN s 0=45)→(s.toList == ([45,48,48,48,48]:List UInt8))=false→(∃ m,g16zone.l0 m s 1=some (z,true))→∃ zh zm,ZoneOk s zh zm∧zoneQ s zh zm=z:=fun hs hf hn ⟨m,hm⟩=>by
  obtain ⟨hd,m2,zh,zm,e1,e2,e3,e4⟩:=zone_l0 s hs z m 1 (by omega) (by omega) hm;have z3:(s.extract 3 s.size).size=2:=by rw [size_ex s 3 s.size (by omega) (by omega)];omega
  have z1:(s.extract 1 3).size=2:=size_ex s 1 3 (by omega) (by omega);obtain ⟨a1,a2,a3⟩:=value_of (s.extract 3 s.size) (by omega) (by omega) (fun i hi=>by rw [btN_extract s 3 s.size i (by omega) (by omega)];exact hd _ (by omega) (by omega)) m2 zm e1;obtain ⟨b1,b2,b3⟩:=value_of (s.extract 1 3) (by omega) (by omega) (fun i hi=>by rw [btN_extract s 1 3 i (by omega) (by omega)];exact hd _ (by omega) (by omega)) m2 zh e2;rw [z3] at a3;rw [z1] at b3;have b3':zh < 100:=by simpa using b3
  refine ⟨zh,zm,⟨hs,hf,fun e=>?_,fun i h1 h2=>hd i h1 h2,b1,a1,e3,b2,b3',a2⟩,?_⟩
  ·rw [e] at hn;exact absurd hn (by rw [Lib.toList_data];decide)
  ·rw [e4];unfold zoneQ;have e0:bt s 0=((btN s 0).toNat:Nat):=bt_btN s 0 (by omega);rw [e0,wrap64_id (n:=60*zh) (by omega) (by omega),wrap64_id (n:=60*zh+zm) (by omega) (by omega)];by_cases c:btN s 0=45
   ·rw [if_pos c,if_pos (by rw [c];rfl),wrap64_id (by omega) (by omega)];omega
   ·rw [if_neg c,if_neg (fun e=>c (UInt8.toNat_inj.1 (by show (btN s 0).toNat=45;omega)))]
 unfold g16zone.f at h;split at h
 ·rename_i c0
  rw [if_pos (by omega)] at h;have e0:bt s 0=((btN s 0).toNat:Nat):=bt_btN s 0 (by omega);split at h
  ·rename_i c1
   obtain ⟨h1,h2⟩:=key _ h;exact fin (by omega) (.inl (UInt8.toNat_inj.1 (by show (btN s 0).toNat=43;omega))) h1 h2
  split at h
  ·rename_i c1
   obtain ⟨h1,h2⟩:=key _ h;exact fin (by omega) (.inr (UInt8.toNat_inj.1 (by show (btN s 0).toNat=45;omega))) h1 h2
  ·exact absurd (key _ h).1 (by simp)
 ·exact absurd (key _ h).1 (by simp)
theorem cut_at (l t:List UInt8) (p i:Nat) (h1:p≤i) (h2:i≤l.length) (h4:Lib.occAt l t i=true) (h5:∀ j,p≤j→j < i→Lib.occAt l t j=false):Lib.cut (l.drop p) t=((l.drop p).take (i - p),l.drop (i+t.length),true):=by
 have hidx:Lib.index (l.drop p) t=((i - p:Nat):Int):=by
  refine Lib.index_first (by rw [List.length_drop];omega) (by rw [occ_drop,show p+(i - p)=i by omega];exact h4) (fun j hj=>?_);rw [occ_drop];exact h5 (p+j) (by omega) (by omega)
 unfold Lib.cut;rw [hidx,if_pos (by omega),Int.toNat_natCast,List.drop_drop];rw [show p+(i - p+t.length)=i+t.length by omega]
theorem occ_two {l:List UInt8} {a b:UInt8} {i:Nat} (h:Lib.occAt l [a,b] i=true):l[i]? = some a∧l[i+1]? = some b:=by
 unfold Lib.occAt at h;rw [List.isPrefixOf_iff_prefix] at h;obtain ⟨r,hr⟩:=h;have h0:=congrArg (fun x:List UInt8=>x[0]?) hr;have h1:=congrArg (fun x:List UInt8=>x[1]?) hr;simp only [List.getElem?_drop,List.cons_append,List.getElem?_cons_zero,List.getElem?_cons_succ,Nat.add_zero] at h0 h1;exact ⟨h0.symm,h1.symm⟩
set_option maxHeartbeats 2000000 in
theorem parseWho_of (k:Nat) (s n m:ByteArray) (t z:Int) (hs:s.size≤1000000) (h:g16ParseWho.f k s=some (n,m,t,z,0)):WhoAt s n m t z:=by
 have key:∀ (b:Bool) (x5 x6 x8:Int) (q0 q1:ByteArray) (q2 q3:Int),g16ParseWho.j0 k s x5 x6 x8 b q0 q1 q2 q3=some (n,m,t,z,0)→b=false∧∃ i,0≤wrap64 (x5+2)∧wrap64 (x5+2)≤x6∧x6≤(s.size:Int)∧g16Value.f i (s.extract (wrap64 (x5+2)).toNat x6.toNat)=some t∧g16Person.f i q0 q1 t x8=some true∧n=q0∧m=q1∧z=x8:=fun b x5 x6 x8 q0 q1 q2 q3 h=>by
  cases k with
  | zero=>simp [g16ParseWho.j0] at h
  | succ k =>
   rw [g16ParseWho.j0] at h;cases b with
   | true=>simp at h
   | false =>
    rw [if_neg (by simp)] at h;split at h
    case isFalse=>simp at h
    split at h
    case isFalse=>simp at h
    split at h
    case isFalse=>simp at h
    rename_i c1 c2 c3
    obtain ⟨v,hv,h⟩:=Option.bind_eq_some_iff.1 h;obtain ⟨b,hb,h⟩:=Option.bind_eq_some_iff.1 h;split at h
    ·rename_i c4
     subst c4;simp only [Option.some.injEq,Prod.mk.injEq,and_true] at h;obtain ⟨rfl,rfl,rfl,rfl⟩:=h;exact ⟨rfl,k,c1,c2,c3,hv,hb,rfl,rfl,rfl⟩
    ·simp at h
 unfold g16ParseWho.f at h;obtain ⟨ra,ha,h⟩:=Option.bind_eq_some_iff.1 h;by_cases ca:ra < 0
 ·rw [if_pos ca] at h;simp at h
 rw [if_neg ca] at h;obtain ⟨rb,hb,h⟩:=Option.bind_eq_some_iff.1 h;by_cases cb:rb < 0
 ·rw [if_pos cb] at h;simp at h
 rw [if_neg cb] at h;obtain ⟨rc,hc,h⟩:=Option.bind_eq_some_iff.1 h;by_cases cc:rc < 0
 ·rw [if_pos cc] at h;simp at h
 rw [if_neg cc] at h;obtain ⟨a,rfl,a1,a2,acut,aocc,ano⟩:=find_cut s ⟨#[32,60]⟩ (by omega) (by decide) (by decide) k 0 ra ha (by omega) (by omega);obtain ⟨b,rfl,b1,b2,bcut,bocc,bno⟩:=find_cut s ⟨#[62,32]⟩ (by omega) (by decide) (by decide) k a rb hb (by omega) (by omega);have z2a:(⟨#[32,60]⟩:ByteArray).size=2:=rfl;have z2b:(⟨#[62,32]⟩:ByteArray).size=2:=rfl;have z1c:(⟨#[32]⟩:ByteArray).size=1:=rfl;rw [z2a] at a2 acut;rw [z2b] at b2 bcut;have eb2:wrap64 ((b:Int)+2)=((b+2:Nat):Int):=by rw [wrap64_id (by omega) (by omega)];omega
 have ea2:wrap64 ((a:Int)+2)=((a+2:Nat):Int):=by rw [wrap64_id (by omega) (by omega)];omega
 rw [eb2] at hc;obtain ⟨c,rfl,c1,c2,ccut,cocc,cno⟩:=find_cut s ⟨#[32]⟩ (by omega) (by decide) (by decide) k (b+2) rc hc (by omega) (by omega);rw [z1c] at c2 ccut;have ec1:wrap64 ((c:Int)+1)=((c+1:Nat):Int):=by rw [wrap64_id (by omega) (by omega)];omega
 rw [eb2,ea2,ec1] at h;have hab:a+2≤b:=by
  have o1:=occ_two (l:=ls s) (a:=32) (b:=60) (i:=a) aocc;have o2:=occ_two (l:=ls s) (a:=62) (b:=32) (i:=b) bocc;rcases Nat.lt_or_ge b (a+2) with hlt | hge
  ·exfalso;have:b=a∨b=a+1:=by omega
   rcases this with rfl | rfl
   ·have:=o1.1.symm.trans o2.1;exact absurd this (by decide)
   ·have:=o1.2.symm.trans o2.1;exact absurd this (by decide)
  ·exact hge
 rw [if_pos (by omega),if_pos (by omega),if_pos (by omega),if_pos (by omega),if_pos (by omega),if_pos (by omega),if_pos (by omega)] at h;obtain ⟨bz,hz,h⟩:=Option.bind_eq_some_iff.1 h;have hz:g16zone.f k (s.extract (c+1) s.size)=some bz:=hz;by_cases cz:bz.2=true;rotate_left
 ·rw [if_neg cz] at h;exact absurd (key _ _ _ _ _ _ _ _ h).1 (by simp)
 rw [if_pos cz] at h;rw [if_pos (by omega),if_pos (by omega),if_pos (by omega)] at h;obtain ⟨bd,hd,h⟩:=Option.bind_eq_some_iff.1 h;have hd:g16Digits.f k (s.extract (b+2) c)=some bd:=hd;by_cases cd:bd=true;rotate_left
 ·rw [if_neg cd] at h;exact absurd (key _ _ _ _ _ _ _ _ h).1 (by simp)
 rw [if_pos cd] at h;subst cd;obtain ⟨f1,hf1,h⟩:=Option.bind_eq_some_iff.1 h;by_cases cf1:f1≥0
 ·rw [if_pos cf1] at h;exact absurd (key _ _ _ _ _ _ _ _ h).1 (by simp)
 rw [if_neg cf1] at h;obtain ⟨f2,hf2,h⟩:=Option.bind_eq_some_iff.1 h;by_cases cf2:f2≥0
 ·rw [if_pos cf2] at h;exact absurd (key _ _ _ _ _ _ _ _ h).1 (by simp)
 rw [if_neg cf2] at h;obtain ⟨f3,hf3,h⟩:=Option.bind_eq_some_iff.1 h;by_cases cf3:f3≥0
 ·rw [if_pos cf3] at h;exact absurd (key _ _ _ _ _ _ _ _ h).1 (by simp)
 rw [if_neg cf3] at h;obtain ⟨f4,hf4,h⟩:=Option.bind_eq_some_iff.1 h;obtain ⟨-,i,-,-,-,hval,hper,rfl,rfl,rfl⟩:=key _ _ _ _ _ _ _ _ h;rw [eb2] at hval;simp only [Int.toNat_natCast] at hval;have hzz:g16zone.f k (sfx s (c+1))=some (bz.1,true):=by
  rw [← sfx_extract,hz];obtain ⟨y1,y2⟩:=bz;simp only at cz;rw [cz]
 obtain ⟨zh,zm,hzo,hzq⟩:=zone_of k _ _ hzz;have hdig:=dig_of k _ hd;obtain ⟨v1,v2,v3⟩:=value_of _ hdig.pos hdig.le hdig.all i t hval;have hwho:=person_of i _ _ _ _ hper;refine ⟨s.extract (b+2) c,sfx s (c+1),(ls s).drop (a+2),(ls s).drop (b+2),zh,zm,⟨by omega,?_,?_,?_,?_,?_,hdig,v1,hzo,by rw [hzq];exact hwho⟩,hzq⟩
 ·rw [List.drop_zero] at acut;show Lib.cut (ls s) [32,60]=_;rw [show ls (⟨#[32,60]⟩:ByteArray)=[32,60] from rfl] at acut;rw [acut];refine Prod.ext ?_ rfl;show (ls s).take (a - 0)=ls (s.extract 0 a);rw [ls_extract,List.drop_zero]
 ·rw [List.length_drop,ls_len];omega
 ·have:=cut_at (ls s) [62,32] (a+2) b hab (by rw [ls_len];omega) bocc (fun j h1 h2=>bno j (by omega) h2);rw [this];refine Prod.ext ?_ rfl;show ((ls s).drop (a+2)).take (b - (a+2))=ls (s.extract (a+2) b);rw [ls_extract]
 ·rw [List.length_drop,ls_len];omega
 ·rw [show ls (⟨#[32]⟩:ByteArray)=[32] from rfl] at ccut;rw [ccut];refine Prod.ext ?_ (Prod.ext ?_ rfl)
  ·show ((ls s).drop (b+2)).take (c - (b+2))=ls (s.extract (b+2) c);rw [ls_extract]
  ·show (ls s).drop (c+1)=ls (sfx s (c+1));rw [ls_sfx]
theorem who_of (k:Nat) (s n m:ByteArray) (t z:Int) (b:Bool) (r:Int) (hs:s.size≤1000000) (h:g16who.f k s b=some (n,m,t,z,r)) (h0:r≠0) (h1:r≠1):b=true∧WhoAt s n m t z:=by
 unfold g16who.f at h;obtain ⟨⟨p0,p1,p2,p3,p4⟩,hp,h⟩:=Option.bind_eq_some_iff.1 h;have key:∀ c,g16who.j0 k p4 c p0 p1 p2 p3=some (n,m,t,z,r)→c=false∧p4=0∧p0=n∧p1=m∧p2=t∧p3=z:=fun c h=>by
  cases k with
  | zero=>simp [g16who.j0] at h
  | succ k =>
   rw [g16who.j0] at h;split at h
   ·simp only [Option.some.injEq,Prod.mk.injEq] at h;exact absurd h.2.2.2.2.symm h0
   ·rename_i c1
    split at h
    ·rename_i c2
     simp only [Option.some.injEq,Prod.mk.injEq] at h;exact ⟨by simpa using c1,c2,h.1,h.2.1,h.2.2.1,h.2.2.2.1⟩
    ·simp only [Option.some.injEq,Prod.mk.injEq] at h;exact absurd h.2.2.2.2.symm h1
 split at h
 ·rename_i c
  obtain ⟨_,e4,rfl,rfl,rfl,rfl⟩:=key _ h;have e4:p4=0:=e4;subst e4;exact ⟨c,parseWho_of k s _ _ _ _ hs hp⟩
 ·exact absurd (key _ h).1 (by simp)
end Go.Proofs.YtninnmdpnoebaaaGreatDoor.Hand
end
section
namespace Go.Proofs.YtninnmdpnoebaaaGreatDoor.Hand
open Go.RowKit Go.Proofs.YtninnmdpnoebaaaGreatDoorW.PrintWords Go.Proofs.YtninnmdpnoebaaaGreatDoorW.PrintLast Go.Proofs.YtninnmdpnoebaaaGreatDoorW.PrintMore
open Go.Proofs.YtninnmdpnoebaaaGreatDoor.PRa
set_option linter.unusedVariables false
set_option linter.unusedSimpArgs false
def Body (s:ByteArray) (l:List ByteArray):Prop:=∃ tr an am at_ az cn cm ct cz x s1 s2 s3 s4 v1 v2,BodyIs s tr l an am at_ az cn cm ct cz x s1 s2 s3 s4 v1 v2
def readQ (l:List S75) (cuts:List ByteArray) (ups:ByteArray→List ByteArray):RdQ:=fun id =>
 if isQ l id=true then (if (l.getD (placeQ l id) z75).f1=3 then (0,if Lib.containsS cuts id=true then [] else ups (l.getD (placeQ l id) z75).f2) else (140,[])) else (171,[])
structure Held (A:Option Addr) (l:List S75) (Ac:Option Addr) (cuts:List ByteArray) (q:Int) (w:World):Prop where
 items:Kd.C k75 w A l.length l
 cuts:Kd.string.C w Ac cuts.length cuts
 len:w.cell? ⟨0,0,none⟩=some (.int .i64 q)
def KW (N:Nat) (A:Option Addr) (l:List S75) (Ac:Option Addr) (cuts:List ByteArray) (q:Int) (w:World):Prop:=∀ w',Below N w w'→Held A l Ac cuts q w'
theorem KW.held {N:Nat} {A:Option Addr} {l:List S75} {Ac:Option Addr} {cuts:List ByteArray} {q:Int} {w:World} (h:KW N A l Ac cuts q w):Held A l Ac cuts q w:=h w (Below.refl _ _)
theorem KW.step {N:Nat} {A:Option Addr} {l:List S75} {Ac:Option Addr} {cuts:List ByteArray} {q:Int} {w w':World} (h:KW N A l Ac cuts q w) (hb:Below N w w'):KW N A l Ac cuts q w':=fun w2 h2=>h w2 (hb.trans h2)
theorem Held.below {A:Option Addr} {l:List S75} {Ac:Option Addr} {cuts:List ByteArray} {q:Int} {w w':World} (h:Held A l Ac cuts q w) (hb:Below w.heap.size w w'):Held A l Ac cuts q w' :=
 ⟨Kd.C_below h.items hb,Kd.C_below h.cuts hb,(hb.cell (World.block_lt_of_cell? w _ h.len)).trans h.len⟩
theorem held_kw {A:Option Addr} {l:List S75} {Ac:Option Addr} {cuts:List ByteArray} {q:Int} {w:World} (h:Held A l Ac cuts q w):KW w.heap.size A l Ac cuts q w:=fun w' hb=>h.below hb
theorem txs_of_R {w:World} {M:Nat} {A:Option Addr} {c:Nat} {xs:List ByteArray} {base:Nat} {e:TypeId} (h:Kd.string.R e w base (fun _=>True) (.slice A xs.length c) xs) (hM:M < base):Txs w M A xs:=fun j hj=>by
 obtain ⟨_,_,hC⟩:=Kd.R_reads' h;obtain ⟨ad,rfl,hc⟩:=Kd.at_string hC (j:Int) (by omega) (by omega);have hb:=Kd.R_base h ad.block rfl;refine ⟨ad,rfl,by omega,?_⟩;simpa [rdOf,hj] using hc
theorem contains_any (Ac:Option Addr) (cc:Nat) (cuts:List ByteArray) (id:ByteArray) (w:World) (hC:Kd.string.C w Ac cuts.length cuts) (hs:∀ ad,Ac=some ad→ad.spot=none) (hl:cuts.length≤4611686018427387903) :
  Calls Tryz.prog 92 #[.slice Ac cuts.length cc,.string id] w fun e w'=>e=.returned (.bool (Lib.containsS cuts id))∧w'=w:=by
 by_cases h0:cuts.length=0
 ·have hn:cuts=[]:=List.eq_nil_of_length_eq_zero h0;subst hn;exact Tryz.slices_Contains_string_empty Ac cc id w
 ·obtain ⟨ad,rfl,_⟩:=Kd.at_string hC 0 (by omega) (by omega);obtain ⟨b,off,sp⟩:=ad;have hsp:sp=none:=hs _ rfl;subst hsp
  have:=Tryz.slices_Contains_string b off cuts.length cc cuts id w (Nat.le_refl _) (by omega) (fun j hj=>by
   obtain ⟨ad,e,hc⟩:=Kd.at_string hC (j:Int) (by omega) (by omega);obtain rfl:=Option.some.inj e;have e2:(⟨b,off,none⟩:Addr).add j=⟨b,off+j,none⟩:=by unfold Addr.add;split<;>simp_all
   simp only [Int.toNat_natCast] at hc;rw [e2] at hc
   simpa [rdOf,hj] using hc)
  rw [List.take_of_length_le (Nat.le_refl _)] at this;exact this
def ReadEnd (rq:Int × List ByteArray) (w:World) (M:Nat) (e:Ending) (w':World):Prop:=∃ v t p c a1 a2 a3 a4 b1 b2 b3 b4 x,e=.returned (.tuple #[v,.int .i64 rq.1]) ∧
   v=.agg #[.string t,.slice p rq.2.length c,.string a1,.string a2,.int .i64 a3,.int .i64 a4,.string b1,.string b2,.int .i64 b3,.int .i64 b4,.string x]∧Txs w' M p rq.2∧Below w.heap.size w w'
set_option maxHeartbeats 8000000 in
set_option maxRecDepth 100000 in
theorem read_any (N:Nat) (A:Option Addr) (c:Nat) (l:List S75) (s1 s2:Value) (Ac:Option Addr) (cc:Nat) (cuts:List ByteArray) (q:Int) (ups:ByteArray→List ByteArray) (hl:l.length≤4611686018427387903) (hcl:cuts.length≤4611686018427387903) (hs:∀ ad,Ac=some ad→ad.spot=none) (h1:s1.oneCell'=true) (h2:s2.oneCell'=true)
  (hB:∀ x∈l,x.f1=3→Body x.f2 (ups x.f2)) (id:ByteArray) (w:World) (M:Nat) (hK:KW N A l Ac cuts q w) (hM:M < w.heap.size) :
  Calls Tryz.prog 66 #[.agg #[.slice A l.length c,s1,s2,.slice Ac cuts.length cc],.string id] w fun e w'=>ReadEnd (readQ l cuts ups id) w M e w':=by
 have hH:=hK.held;obtain ⟨rq,hrq⟩:∃ r,readQ l cuts ups id=r:=⟨_,rfl⟩;rw [hrq];have HRQ:=Lib.hid hrq;clear hrq;generalize hw2:(w.alloc (.cells #[.slice A l.length c,s1,s2,.slice Ac cuts.length cc] 29)).alloc (.cells #[.string ⟨#[]⟩,.slice none 0 0,.string ⟨#[]⟩,.string ⟨#[]⟩,.int .i64 0,.int .i64 0,.string ⟨#[]⟩,.string ⟨#[]⟩,.int .i64 0,.int .i64 0,.string ⟨#[]⟩] 57)=w2;have hz1:(w.alloc (.cells #[.slice A l.length c,s1,s2,.slice Ac cuts.length cc] 29)).heap.size=w.heap.size+1:=Array.size_push _;have hb2:Below w.heap.size w w2:=by rw [← hw2];exact ((Below.refl _ w).alloc (Nat.le_refl _) _).alloc (by omega) _
 have k0:w2.heap[w.heap.size]? = some (.cells #[.slice A l.length c,s1,s2,.slice Ac cuts.length cc] 29 (0,0)):=by rw [← hw2,heap_alloc_old _ _ (by omega)];exact heap_alloc_new _ _
 have k1:w2.heap[w.heap.size+1]? = some (.cells #[.string ⟨#[]⟩,.slice none 0 0,.string ⟨#[]⟩,.string ⟨#[]⟩,.int .i64 0,.int .i64 0,.string ⟨#[]⟩,.string ⟨#[]⟩,.int .i64 0,.int .i64 0,.string ⟨#[]⟩] 57 (0,0)):=by rw [← hw2,← hz1];exact heap_alloc_new _ _
 have hH2:=hH.below hb2;have HX:=Lib.hid (get_any A c l id w2 hH2.items hl);have HB2:=Lib.hid hb2;have HV2:=Lib.hid k0;have HR2:=Lib.hid k1;have HH2:=Lib.hid hH2;have HW2:=Lib.hid hw2;have HBD:=Lib.hid hB;have HS:=Lib.hid hs;have c0:w2.cell? ⟨w.heap.size,0,none⟩=some (.slice A l.length c):=by rw [blk_cell k0 0];rfl
 clear hK hH hw2 hb2 k0 k1 hH2 hB hs hz1;go_enter Tryz.func66,Tryz.ntmps66;go_upto_region 1 with (fail);rw [HW2.out];go_wp2_with fail;refine HX.out.mono ?_;rintro e w3 ⟨rfl,hb3⟩;have HB3:=Lib.hid (HB2.out.trans (hb3.mono HB2.out.size));have HV3:=Lib.hid ((hb3.block _ (lt_of_block HV2.out)).trans HV2.out);have HR3:=Lib.hid ((hb3.block _ (lt_of_block HR2.out)).trans HR2.out);have HH3:=Lib.hid (HH2.out.below hb3);clear hb3 HB2 HV2 HR2 HH2 HX HW2 c0;have hAll:(#[.string ⟨#[]⟩,.slice none 0 0,.string ⟨#[]⟩,.string ⟨#[]⟩,.int .i64 0,.int .i64 0,.string ⟨#[]⟩,.string ⟨#[]⟩,.int .i64 0,.int .i64 0,.string ⟨#[]⟩]:Array Value).all (·.oneCell')=true:=by kernel_rfl
 have hInf:(Tryz.prog.info? 57).map (·.size)=some (#[.string ⟨#[]⟩,.slice none 0 0,.string ⟨#[]⟩,.string ⟨#[]⟩,.int .i64 0,.int .i64 0,.string ⟨#[]⟩,.string ⟨#[]⟩,.int .i64 0,.int .i64 0,.string ⟨#[]⟩]:Array Value).size:=by kernel_rfl
 go_upto_region 2 with (fail);have hb4:Below w3.heap.size w3 (w3.alloc (.cells #[.int .i64 (getQ l id).1.1,.string (getQ l id).1.2] 60)):=(Below.refl _ w3).alloc (Nat.le_refl _) _;have HB4:=Lib.hid (HB3.out.trans (hb4.mono HB3.out.size));have HV4:=Lib.hid ((hb4.block _ (lt_of_block HV3.out)).trans HV3.out);have HR4:=Lib.hid ((hb4.block _ (lt_of_block HR3.out)).trans HR3.out);have HH4:=Lib.hid (HH3.out.below hb4);have k4:(w3.alloc (.cells #[.int .i64 (getQ l id).1.1,.string (getQ l id).1.2] 60)).heap[w3.heap.size]? = some (.cells #[.int .i64 (getQ l id).1.1,.string (getQ l id).1.2] 60 (0,0)):=heap_alloc_new _ _;clear hb4 HB3 HV3 HR3 HH3;generalize w3.heap.size=g4 at *;generalize w3.alloc (.cells #[.int .i64 (getQ l id).1.1,.string (getQ l id).1.2] 60)=w4 at *;cases hi:isQ l id with
 | false =>
  have hg:getQ l id=((0,⟨#[]⟩),5):=by simp [getQ,hi]
  have hq:rq=(171,[]):=by rw [← HRQ.out];simp [readQ,hi]
  rw [hg] at k4 ⊢;clear hg;have HRES:=Lib.hid (setRow_heap w4 (w.heap.size+1) _ #[.string ⟨#[]⟩,.slice none 0 0,.string ⟨#[]⟩,.string ⟨#[]⟩,.int .i64 0,.int .i64 0,.string ⟨#[]⟩,.string ⟨#[]⟩,.int .i64 0,.int .i64 0,.string ⟨#[]⟩] 57 (0,0) HR4.out);have HBF:=Lib.hid (below_setRow HB4.out (show w.heap.size≤w.heap.size+1 by omega) #[.string ⟨#[]⟩,.slice none 0 0,.string ⟨#[]⟩,.string ⟨#[]⟩,.int .i64 0,.int .i64 0,.string ⟨#[]⟩,.string ⟨#[]⟩,.int .i64 0,.int .i64 0,.string ⟨#[]⟩]);subst hq;go_wp2_with (refine wpList_store_row rfl 57 (.tmp 4) (.tmp 19) rfl (w.heap.size+1) #[.string ⟨#[]⟩,.slice none 0 0,.string ⟨#[]⟩,.string ⟨#[]⟩,.int .i64 0,.int .i64 0,.string ⟨#[]⟩,.string ⟨#[]⟩,.int .i64 0,.int .i64 0,.string ⟨#[]⟩] rfl rfl 57 _ HR4.out hInf rfl hAll ?_);refine bodyPost_ret (results_ch rfl _ _ (w.heap.size+1) 57 _ (0,0) _ rfl HRES.out Tryz.underlying57 rfl (by kernel_rfl)) rfl ?_;exact ⟨_,_,_,_,_,_,_,_,_,_,_,_,_,rfl,rfl,fun j hj=>absurd hj (Nat.not_lt_zero _),HBF.out⟩
 | true =>
  have hlt:=isQ_lt hi;have hmem:l.getD (placeQ l id) z75∈l:=by
   have e:l.getD (placeQ l id) z75=l[placeQ l id]:=by simp [hlt]
   rw [e];exact List.getElem_mem hlt
  have hg:getQ l id=(((l.getD (placeQ l id) z75).f1,(l.getD (placeQ l id) z75).f2),0):=by rw [getQ,if_pos hi]
  have hbd:=HBD.out _ hmem;have hq0:rq=(if (l.getD (placeQ l id) z75).f1=3 then (0,if Lib.containsS cuts id=true then [] else ups (l.getD (placeQ l id) z75).f2) else (140,[])):=by rw [← HRQ.out,readQ,if_pos hi]
  rw [hg] at k4 ⊢;clear hg hmem hlt HBD;generalize l.getD (placeQ l id) z75=it at *;obtain ⟨i0,i1,i2⟩:=it;simp only at k4 hbd hq0 ⊢;have c0:w4.cell? ⟨g4,0,none⟩=some (.int .i64 i1):=by rw [blk_cell k4 0];rfl
  have c1:w4.cell? ⟨g4,1,none⟩=some (.string i2):=by rw [blk_cell k4 1];rfl
  by_cases c3:i1=3
  ·subst c3;rw [if_pos rfl] at hq0;obtain ⟨tr,an,am,at_,az,cn,cm,ct,cz,x,p1,p2,p3,p4,v1,v2,hbody⟩:=hbd rfl;have HP:=Lib.hid (parse_any i2 tr (ups i2) an am at_ az cn cm ct cz x p1 p2 p3 p4 v1 v2 hbody w4 q HH4.out.len);have HQ:=Lib.hid hq0;have hfew:=hbody.ok.few;clear hq0 hbody hbd k4;generalize ups i2=pl at *;go_wp2_with fail;refine HP.out.mono ?_;rintro e w5 ⟨Ap,cp,rfl,hRp,hb5⟩;have HB5:=Lib.hid (HB4.out.trans (hb5.mono HB4.out.size));have HV5:=Lib.hid ((hb5.block _ (lt_of_block HV4.out)).trans HV4.out);have HR5:=Lib.hid ((hb5.block _ (lt_of_block HR4.out)).trans HR4.out);have HH5:=Lib.hid (HH4.out.below hb5);have HRP5:=Lib.hid hRp;have hz4:w.heap.size+1 < w4.heap.size:=lt_of_block HR4.out;clear hb5 hRp HB4 HV4 HR4 HH4 HP c0 c1;go_upto_region 7 with (fail);have hb6:Below w5.heap.size w5 (w5.alloc (.cells #[.string tr,.slice Ap pl.length cp,.string an,.string am,.int .i64 at_,.int .i64 az,.string cn,.string cm,.int .i64 ct,.int .i64 cz,.string x] 57)):=(Below.refl _ w5).alloc (Nat.le_refl _) _;have HB6:=Lib.hid (HB5.out.trans (hb6.mono HB5.out.size));have HV6:=Lib.hid ((hb6.block _ (lt_of_block HV5.out)).trans HV5.out);have HR6:=Lib.hid ((hb6.block _ (lt_of_block HR5.out)).trans HR5.out);have HH6:=Lib.hid (HH5.out.below hb6);have HRP6:=Lib.hid (Kd.R_below HRP5.out hb6);have k6:(w5.alloc (.cells #[.string tr,.slice Ap pl.length cp,.string an,.string am,.int .i64 at_,.int .i64 az,.string cn,.string cm,.int .i64 ct,.int .i64 cz,.string x] 57)).heap[w5.heap.size]? = some (.cells #[.string tr,.slice Ap pl.length cp,.string an,.string am,.int .i64 at_,.int .i64 az,.string cn,.string cm,.int .i64 ct,.int .i64 cz,.string x] 57 (0,0)):=heap_alloc_new _ _;have hne:w5.heap.size≠w.heap.size+1:=by have:=lt_of_block HR5.out;omega
   have hg5:w.heap.size≤w5.heap.size:=HB5.out.size;clear hb6 HB5 HV5 HR5 HH5 HRP5;generalize w5.heap.size=gc at *;generalize w5.alloc (.cells #[.string tr,.slice Ap pl.length cp,.string an,.string am,.int .i64 at_,.int .i64 az,.string cn,.string cm,.int .i64 ct,.int .i64 cz,.string x] 57)=w6 at *;have HC:=Lib.hid (contains_any Ac cc cuts id w6 HH6.out.cuts HS.out hcl);have v3:w6.cell? ⟨w.heap.size,3,none⟩=some (.slice Ac cuts.length cc):=by rw [blk_cell HV6.out 3];rfl
   cases hcn:Lib.containsS cuts id with
   | true =>
    rw [hcn] at HC;have hq:rq=(0,[]):=by rw [HQ.out,hcn];rfl
    subst hq;clear HQ hcn;have k1:=(cells11 k6).2.1;have f1:=blk_frozen k6 1;have HK6:=Lib.hid k6;clear k6;go_wp2_with fail;refine HC.out.mono ?_;rintro e w7 ⟨rfl,rfl⟩;clear HC v3;go_upto_region 11 with (fail);have k7:(w7.setCell ⟨gc,1,none⟩ (.slice none 0 0)).heap[gc]? = some (.cells #[.string tr,.slice none 0 0,.string an,.string am,.int .i64 at_,.int .i64 az,.string cn,.string cm,.int .i64 ct,.int .i64 cz,.string x] 57 (0,0)):=by
     have:=blk_set HK6.out 1 (.slice none 0 0);simpa using this
    have HRW:RowKit.Hid ((w7.setCell ⟨gc,1,none⟩ (.slice none 0 0)).heap[w.heap.size+1]? = some (.cells #[.string ⟨#[]⟩,.slice none 0 0,.string ⟨#[]⟩,.string ⟨#[]⟩,.int .i64 0,.int .i64 0,.string ⟨#[]⟩,.string ⟨#[]⟩,.int .i64 0,.int .i64 0,.string ⟨#[]⟩] 57 (0,0))):=Lib.hid ((Below.heap_setCell _ ⟨gc,1,none⟩ _ _ hne.symm).trans HR6.out);have HBW:=Lib.hid (HB6.out.setCell (p:=⟨gc,1,none⟩) (show w.heap.size≤gc from hg5) (.slice none 0 0));clear k1 f1 HK6;generalize w7.setCell ⟨gc,1,none⟩ (.slice none 0 0)=w8 at *;obtain ⟨d0,d1,d2,d3,d4,d5,d6,d7,d8,d9,d10⟩:=cells11 k7;clear k7;have HRES:=Lib.hid (setRow_heap w8 (w.heap.size+1) _ #[.string tr,.slice none 0 0,.string an,.string am,.int .i64 at_,.int .i64 az,.string cn,.string cm,.int .i64 ct,.int .i64 cz,.string x] 57 (0,0) HRW.out);have HBF:=Lib.hid (below_setRow HBW.out (show w.heap.size≤w.heap.size+1 by omega) #[.string tr,.slice none 0 0,.string an,.string am,.int .i64 at_,.int .i64 az,.string cn,.string cm,.int .i64 ct,.int .i64 cz,.string x]);have hAll2:(#[.string tr,.slice none 0 0,.string an,.string am,.int .i64 at_,.int .i64 az,.string cn,.string cm,.int .i64 ct,.int .i64 cz,.string x]:Array Value).all (·.oneCell')=true:=by kernel_rfl
    have hInf2:(Tryz.prog.info? 57).map (·.size)=some (#[.string tr,.slice none 0 0,.string an,.string am,.int .i64 at_,.int .i64 az,.string cn,.string cm,.int .i64 ct,.int .i64 cz,.string x]:Array Value).size:=by kernel_rfl
    go_wp2_with (refine wpList_store_row rfl 57 (.tmp 4) (.tmp 40) rfl (w.heap.size+1) #[.string tr,.slice none 0 0,.string an,.string am,.int .i64 at_,.int .i64 az,.string cn,.string cm,.int .i64 ct,.int .i64 cz,.string x] rfl rfl 57 _ HRW.out hInf2 rfl hAll2 ?_);refine bodyPost_ret (results_ch rfl _ _ (w.heap.size+1) 57 _ (0,0) _ rfl HRES.out Tryz.underlying57 rfl (by kernel_rfl)) rfl ?_;exact ⟨_,_,_,_,_,_,_,_,_,_,_,_,_,rfl,rfl,fun j hj=>absurd hj (Nat.not_lt_zero _),HBF.out⟩
   | false =>
    rw [hcn] at HC;have hq:rq=(0,pl):=by rw [HQ.out,hcn];rfl
    subst hq;clear HQ hcn;go_wp2_with fail;refine HC.out.mono ?_;rintro e w7 ⟨rfl,rfl⟩;clear HC v3;go_upto_region 11 with (fail);have HRW:=HR6;have HBW:=HB6;have hTx:Txs (w7.setRow (w.heap.size+1) #[.string tr,.slice Ap pl.length cp,.string an,.string am,.int .i64 at_,.int .i64 az,.string cn,.string cm,.int .i64 ct,.int .i64 cz,.string x]) M Ap pl:=by
     intro j hj;obtain ⟨ad,e,hn,hc⟩:=txs_of_R (M:=M) HRP6.out (by omega) j hj;have hb5:=Kd.R_base HRP6.out ad.block (by rw [e];rfl);have hne5:(ad.add j).block≠w.heap.size+1:=by
      rw [show (ad.add j).block=ad.block from by simp only [Addr.add];split<;>rfl];omega
     exact ⟨ad,e,hn,(cell_setRow_other w7 (w.heap.size+1) _ _ hne5).trans hc⟩
    obtain ⟨d0,d1,d2,d3,d4,d5,d6,d7,d8,d9,d10⟩:=cells11 k6;clear k6;have HRES:=Lib.hid (setRow_heap w7 (w.heap.size+1) _ #[.string tr,.slice Ap pl.length cp,.string an,.string am,.int .i64 at_,.int .i64 az,.string cn,.string cm,.int .i64 ct,.int .i64 cz,.string x] 57 (0,0) HRW.out);have HBF:=Lib.hid (below_setRow HBW.out (show w.heap.size≤w.heap.size+1 by omega) #[.string tr,.slice Ap pl.length cp,.string an,.string am,.int .i64 at_,.int .i64 az,.string cn,.string cm,.int .i64 ct,.int .i64 cz,.string x]);have hAll2:(#[.string tr,.slice Ap pl.length cp,.string an,.string am,.int .i64 at_,.int .i64 az,.string cn,.string cm,.int .i64 ct,.int .i64 cz,.string x]:Array Value).all (·.oneCell')=true:=by kernel_rfl
    have hInf2:(Tryz.prog.info? 57).map (·.size)=some (#[.string tr,.slice Ap pl.length cp,.string an,.string am,.int .i64 at_,.int .i64 az,.string cn,.string cm,.int .i64 ct,.int .i64 cz,.string x]:Array Value).size:=by kernel_rfl
    go_wp2_with (refine wpList_store_row rfl 57 (.tmp 4) (.tmp 40) rfl (w.heap.size+1) #[.string tr,.slice Ap pl.length cp,.string an,.string am,.int .i64 at_,.int .i64 az,.string cn,.string cm,.int .i64 ct,.int .i64 cz,.string x] rfl rfl 57 _ HRW.out hInf2 rfl hAll2 ?_);refine bodyPost_ret (results_ch rfl _ _ (w.heap.size+1) 57 _ (0,0) _ rfl HRES.out Tryz.underlying57 rfl (by kernel_rfl)) rfl ?_;exact ⟨_,_,_,_,_,_,_,_,_,_,_,_,_,rfl,rfl,hTx,HBF.out⟩
  ·rw [if_neg c3] at hq0;have hq:=hq0;have c3b:(i1 != 3)=true:=by simp [c3]
   clear hq0;have HRES:=Lib.hid (setRow_heap w4 (w.heap.size+1) _ #[.string ⟨#[]⟩,.slice none 0 0,.string ⟨#[]⟩,.string ⟨#[]⟩,.int .i64 0,.int .i64 0,.string ⟨#[]⟩,.string ⟨#[]⟩,.int .i64 0,.int .i64 0,.string ⟨#[]⟩] 57 (0,0) HR4.out);have HBF:=Lib.hid (below_setRow HB4.out (show w.heap.size≤w.heap.size+1 by omega) #[.string ⟨#[]⟩,.slice none 0 0,.string ⟨#[]⟩,.string ⟨#[]⟩,.int .i64 0,.int .i64 0,.string ⟨#[]⟩,.string ⟨#[]⟩,.int .i64 0,.int .i64 0,.string ⟨#[]⟩]);subst hq;go_wp2_with (refine wpList_store_row rfl 57 (.tmp 4) (.tmp 24) rfl (w.heap.size+1) #[.string ⟨#[]⟩,.slice none 0 0,.string ⟨#[]⟩,.string ⟨#[]⟩,.int .i64 0,.int .i64 0,.string ⟨#[]⟩,.string ⟨#[]⟩,.int .i64 0,.int .i64 0,.string ⟨#[]⟩] rfl rfl 57 _ HR4.out hInf rfl hAll ?_);refine bodyPost_ret (results_ch rfl _ _ (w.heap.size+1) 57 _ (0,0) _ rfl HRES.out Tryz.underlying57 rfl (by kernel_rfl)) rfl ?_;exact ⟨_,_,_,_,_,_,_,_,_,_,_,_,_,rfl,rfl,fun j hj=>absurd hj (Nat.not_lt_zero _),HBF.out⟩
theorem few_ups {s:ByteArray} {l:List ByteArray} (h:Body s l):l.length≤8:=by
 obtain ⟨_,_,_,_,_,_,_,_,_,_,_,_,_,_,_,_,h⟩:=h;exact h.ok.few
theorem reads_of (N:Nat) (A:Option Addr) (c:Nat) (l:List S75) (s1 s2:Value) (Ac:Option Addr) (cc:Nat) (cuts:List ByteArray) (q:Int) (ups:ByteArray→List ByteArray) (hl:l.length≤4611686018427387903) (hcl:cuts.length≤4611686018427387903) (hs:∀ ad,Ac=some ad→ad.spot=none) (h1:s1.oneCell'=true) (h2:s2.oneCell'=true)
  (hB:∀ x∈l,x.f1=3→Body x.f2 (ups x.f2)):Reads (KW N A l Ac cuts q) (.agg #[.slice A l.length c,s1,s2,.slice Ac cuts.length cc]) (readQ l cuts ups) where
 small:=fun id=>by
  unfold readQ;split
  ·rename_i hi
   split
   ·rename_i h3
    split
    ·exact Nat.zero_le _
    ·have hlt:=isQ_lt hi;have e:l.getD (placeQ l id) z75=l[placeQ l id]:=by simp [hlt]
     have:=few_ups (hB _ (by rw [e];exact List.getElem_mem hlt) h3);exact Nat.le_trans this (by omega)
   ·exact Nat.zero_le _
  ·exact Nat.zero_le _
 run:=fun id w M hK hM=>read_any N A c l s1 s2 Ac cc cuts q ups hl hcl hs h1 h2 hB id w M hK hM
end Go.Proofs.YtninnmdpnoebaaaGreatDoor.Hand
end
