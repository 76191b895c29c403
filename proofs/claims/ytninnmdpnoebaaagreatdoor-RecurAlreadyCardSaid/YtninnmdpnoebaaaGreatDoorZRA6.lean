/- The law RecurAlready: what its proof takes, part 7 of 8 (packed by wip/gen/pack.py: each section was a text of its own). -/
import Derived.Test.YtninnmdpnoebaaaGreatDoorZRA5
import Derived.Test.YtninnmdpnoebaaaGreatDoorZRA0
import Derived.Test.YtninnmdpnoebaaaGreatDoorZRA1
import Derived.LoopN
import Derived.Maps.OwnSet
import Derived.Test.YtninnmdpnoebaaaGreatDoorRows
import Derived.WalkKit
import Derived.ProofKit
import Derived.OpenShut
import Derived.ShutString
import Derived.ChangeOld
import Derived.Below
import Derived.SizedLaws
import Derived.LaidMore
import Derived.Stop.Joined
import Derived.Shelf.Vars
import Derived.Deep.DeepWitnessRowRef
section
namespace Go.Proofs.YtninnmdpnoebaaaGreatDoor.Hand
open Go.RowKit Go.Proofs.YtninnmdpnoebaaaGreatDoorW.PrintWords Go.Proofs.YtninnmdpnoebaaaGreatDoorW.PrintLast Go.Proofs.YtninnmdpnoebaaaGreatDoorW.PrintMore
open Go.ChangeMaps Go.Sort
set_option linter.unusedVariables false
set_option linter.unusedSimpArgs false
theorem zero_unit (w:World):(zeroValue 85).run Tryz.prog w=.ok (.agg #[]) w:=by kernel_rfl
section
variable {K:World→Prop} {w w':World} {b M g:Nat} {s0 s1 s2 s3 o0 o1 o2 o3 o4:Value} {anc:ByteArray→List ByteArray} {ids:List ByteArray}
theorem RecS.other (h:RecS K w b M s0 s1 s2 s3 o0 o1 o2 o3 o4 anc ids) (hg:w.grownBy w' (some g)) (h1:g≠b) (h2:g≠M) (hk:Keeps w w') (hK:K w'):RecS K w' b M s0 s1 s2 s3 o0 o1 o2 o3 o4 anc ids:=by
 obtain ⟨es,c,hS,hke,hv⟩:=h.known;exact ⟨(hg.block b (lt_of_block h.blk) (by intro e;injection e with e;exact h1 e.symm)).trans h.blk,hK,es,c,hS.kept (hg.block M hS.lt (by intro e;injection e with e;exact h2 e.symm)),hke,fun x hx=>(hv x hx).keep hk⟩
end
theorem grown_new {w w1 w2:World} {r:Option Nat} {g:Nat} (h:w.grownBy w1 r) (h2:w1.grownBy w2 (some g)) (hg:w.heap.size≤g):w.grownBy w2 r :=
 ⟨h2.os.trans h.os,h2.tape.trans h.tape,h2.output.trans h.output,Nat.le_trans h.size h2.size,fun k hk hne=>(h2.block k (Nat.lt_of_lt_of_le hk h.size) (by intro e;injection e with e;omega)).trans (h.block k hk hne)⟩
theorem keeps_iter {w w':World} {g:Nat} {p:Option Nat} {c1 c2:Nat} {sn:Array Nat} (hb:w.heap[g]? = some (.mapIter p c1 sn c2)) (hg:w.grownBy w' (some g)):Keeps w w':=fun q v hv=>by
 refine cell_grown hg hv ?_;intro e;injection e with e;unfold World.cell? at hv;rw [e,hb] at hv;cases hv
theorem left_one (x:MapEntry):leftOf #[x] #[]=#[x]:=by simp [leftOf]
theorem left_none (x:MapEntry):leftOf #[x] #[x.born]=#[]:=by simp [leftOf]
theorem fit_one {P:Program} {k:TypeId} (hk:P.underlying k=some .string) (a:ByteArray) (ha:a.size≤maxLen) (v:Value) (c:Nat) :
  WideElems.Fit (H:=Nat) P k (fun _=>some (.lit (.bool true),[])) #[newE a v c] (c+1)∧WideElems.rg (H:=Nat) P k (fun _=>some (.lit (.bool true),[])) (newE a v c)=(.string a.data.toList,.lit (.bool true)):=by
 have hkey:=WideMaps.keyOf_string_mk (P:=P) hk ha;have hrd:WideElems.rd (H:=Nat) P k (fun _=>some (.lit (.bool true),[])) (newE a v c)=some (.string a.data.toList,.lit (.bool true)):=by
  unfold WideElems.rd;rw [show (newE a v c).key=.string a from rfl,hkey];rfl
 refine ⟨⟨by simp [maxLen],⟨fun x hx=>?_,by simp,by simp⟩,fun x hx=>?_⟩,by unfold WideElems.rg;rw [hrd];rfl⟩
 ·rw [List.mem_singleton.1 hx];exact Nat.lt_succ_self c
 ·rw [List.mem_singleton.1 hx];exact ⟨_,hrd⟩
theorem sorted_one (w:World) (M c:Nat) (a:ByteArray) (v:Value) (hM:SMap w M [newE a v c] (c+1)) (ha:a.size≤maxLen) :
  Calls Tryz.prog 37 #[.func (.func 64) #[] #[.pointer (some ⟨w.heap.size,0,none⟩)]] (w.alloc (.cells #[.map (some M)] 84)) fun e w'=>∃ g cap,e=.returned (.slice (some ⟨g,0,none⟩) 1 cap)∧w'.cell? ⟨g,0,none⟩=some (.string a)∧Below (w.alloc (.cells #[.map (some M)] 84)).heap.size (w.alloc (.cells #[.map (some M)] 84)) w':=by
 obtain ⟨hF,hrg⟩:=fit_one (P:=Tryz.prog) Tryz.underlying9 a ha v c;have hown:=World.ownsMap_of_fit (R:=fun _=>some (DataW.lit (.bool true),[])) hM.blk hF (fun _ _ _ h=>h);have hD:(DataW.map ((([newE a v c]:List MapEntry).toArray.toList.map (WideElems.rg (H:=Nat) Tryz.prog 9 (fun _=>some (.lit (.bool true),[])))).foldr DataW.insert []))=.map [(.string a.data.toList,.lit (.bool true))]:=by
  simp only [List.toList_toArray,List.map_cons,List.map_nil,List.foldr_cons,List.foldr_nil,hrg];rfl
 rw [hD] at hown;have:=Tryz.slices_Sorted_keys_37_38 M _ _ _ w hown (by simp [Maps.size,maxLen]) (by simp [Maps.size]);refine (callsIn_wide.1 this).mono ?_;rintro e w' ⟨v,ss,rfl,hS,hrow,hnil,hb⟩;have hss:ss=[a.data.toList]:=List.perm_singleton.1 hS;subst hss;rcases hrow.2 with ⟨h0,h1⟩ | ⟨g,cap,cur,hv,hbase,hblk,h1,h2,h3,h4⟩
 ·simp at h1
 ·subst hv;refine ⟨g,cap,rfl,?_,hb⟩;have h5:List.take 1 cur.toList=[.string a]:=by
   have:List.take 1 cur.toList=List.map encStr [a.data.toList]:=by simpa using h4
   rw [this];rfl
  have h6:cur.toList[0]? = some (.string a):=by
   have:=congrArg (fun l:List Value=>l[0]?) h5;simpa using this
  rw [blk_cell hblk 0];simpa using h6
set_option maxHeartbeats 8000000 in
set_option maxRecDepth 100000 in
theorem best_one (K:World→Prop) (N:Nat) (s0 s1 s2 s3 o0 o1 o2 o3 o4:Value) (rd:RdQ) (hR:Reads K (.agg #[s0,s1,s2,s3]) rd) (hK:∀ w w',K w→Below N w w'→K w') (n:Nat) (anc:ByteArray→List ByteArray) (w:World) (b0 M:Nat) (ids:List ByteArray) (a b:ByteArray)
  (hN:N≤M) (hS:RecS K w b0 M s0 s1 s2 s3 o0 o1 o2 o3 o4 anc ids) (hGa:Good rd n anc a) (hGb:Good rd n anc b) (haa:anc a=[a]) (hab:Lib.containsS (anc b) a=true) (hlb:(anc b).length≤4611686018427387903) (hra:Rises (anc b)) (hsz:a.size≤maxLen)
  (g1:Nat) (hc:w.cell? ⟨g1,0,none⟩=some (.string a)) (hbM:b0≠M) :
  Calls Tryz.prog 22 #[.pointer (some ⟨b0,0,none⟩),.slice (some ⟨g1,0,none⟩) 1 1,.string b] w fun e w'=>∃ A c,e=.returned (.slice A 1 c)∧w.grownBy w' (some M):=by
 have hmk:=fun wx:World=>run_makeMap_plain (P:=Tryz.prog) wx 84;have HU:=Lib.hid (fun wx ids id hS hG=>up_any K N s0 s1 s2 s3 o0 o1 o2 o3 o4 rd hR hK n anc wx b0 M ids id hN hS hG);have HUB:=Lib.hid (up_any K N s0 s1 s2 s3 o0 o1 o2 o3 o4 rd hR hK n anc w b0 M ids b hN hS hGb);have HGA:=Lib.hid hGa;have HAA:=Lib.hid haa;have HAB:=Lib.hid hab;have HRA:=Lib.hid hra;have HLB:=Lib.hid hlb;have HKK:=Lib.hid hK;have HC:=Lib.hid hc;have hML:=hS.lt;have hb0:=lt_of_block hS.blk;clear hR hK hGa hGb haa hab hlb hra hS hc;go_enter Tryz.func22,Tryz.ntmps22;go_wp2_with fail;refine HUB.out.mono ?_;rintro e w1 ⟨v,ids1,rfl,⟨A1,c1,rfl,hc1,hC1⟩,hS1,hg1,hk1⟩;clear HUB;have HC1:=Lib.hid hC1;go_upto_region 3 with (fail);have hb2:Below w1.heap.size w1 (w1.alloc (.map #[] 0)):=(Below.refl _ w1).alloc (Nat.le_refl _) _;have hM2:SMap (w1.alloc (.map #[] 0)) w1.heap.size [] 0:=⟨heap_alloc_new _ _,fun _ h=>absurd h List.not_mem_nil,by simp,fun _ h=>absurd h List.not_mem_nil,by simp⟩;have hkw1:K w1:=hS1.K;have HS2:=Lib.hid (hS1.below hb2 (HKK.out _ _ hkw1 (hb2.mono (by have:=hS1.lt;omega))));have hk2:=hk1.trans (keeps_below hb2);have hg2:=grown_trans hg1 (grown_below hb2 (some M));have HG2:=Lib.hid hg2;have HC2:=Lib.hid (Kd.C_below hC1 hb2);have hc2:(w1.alloc (.map #[] 0)).cell? ⟨g1,0,none⟩=some (.string a):=hk2 _ _ HC.out;have HM2:=Lib.hid hM2;have hMc:M < w1.heap.size:=hS1.lt;have hMw:w.heap.size≤w1.heap.size:=hg1.size;have hb0c:b0 < w1.heap.size:=by have:=hg1.size;omega
 clear hb2 hM2 hk2 hg2 hS1 hg1 hk1 hC1;generalize w1.heap.size=Mc at *;generalize w1.alloc (.map #[] 0)=w2 at *;go_wp2_with fail;refine wp_loop_rounds 2 ?_;rw [rounds_succ];go_wp2_with fail;refine (HU.out w2 ids1 a HS2.out HGA.out).mono ?_;rintro e w3 ⟨v,ids3,rfl,⟨A3,c3,rfl,hc3,hC3⟩,hS3,hg3,hk3⟩;rw [HAA.out] at hC3 hc3 ⊢;rw [show ([a]:List ByteArray).length=1 from rfl] at hC3 hc3 ⊢;obtain ⟨ad3,rfl,hx3⟩:=Kd.at_string hC3 0 (by omega) (by omega);have hx:w3.cell? (ad3.add 0)=some (.string a):=hx3;have hx':w3.cell? ad3=some (.string a):=hx3;obtain ⟨_,_,e1,_,hC13⟩:=RowV.keep ⟨A1,c1,rfl,hc1,HC2.out⟩ hk3;cases e1;have HBS:=Lib.hid (bs_any A1 c1 (anc b) a w3 hC13 HLB.out HRA.out);rw [HAB.out] at HBS;have hM3:=HM2.out.kept (hg3.block Mc HM2.out.lt (by intro e;injection e with e;omega));obtain ⟨hrun,hM4⟩:=smap_put Tryz.underlying84 Tryz.underlying9 hM3 a (by simp) (.agg #[]);have hMclt:=hM3.lt;have hgs:=grown_setBlock w3 Mc (.map ([]++[newE a (.agg #[]) 0]).toArray (0+1));have hkeep4:=keeps_map hM3 (.map ([]++[newE a (.agg #[]) 0]).toArray (0+1));have HS3:=Lib.hid hS3;have hg3':=grown_trans HG2.out hg3;clear hx3 hC3 hC13 HC2 hM3 hS3 hg3 hc2;go_wp2_with fail;refine wp_loop_rounds 2 ?_;rw [rounds_succ];go_wp2_with fail;refine HBS.out.mono ?_;rintro e w4 ⟨pp,rfl,rfl⟩;clear HBS;go_wp2_with fail;simp only [List.nil_append,Nat.zero_add] at hM4 hgs hkeep4;have hblk4:=hM4.blk;have hk4:K (setBlock w4 Mc (.map #[newE a (.agg #[]) 0] 1)):=HKK.out _ _ HS3.out.K (below_grown hgs (by omega) hMclt);have HS4:=Lib.hid (HS3.out.other hgs (by omega) (by omega) hkeep4 hk4);have HG4:RowKit.Hid (w.grownBy (setBlock w4 Mc (.map #[newE a (.agg #[]) 0] 1)) (some M)):=Lib.hid (grown_new hg3' hgs hMw);have HM4:RowKit.Hid (SMap (setBlock w4 Mc (.map #[newE a (.agg #[]) 0] 1)) Mc [newE a (.agg #[]) 0] 1):=Lib.hid hM4;clear hrun hM4 hgs hkeep4 HS3 hk4 hblk4 hx hx' hg3';generalize setBlock w4 Mc (.map #[newE a (.agg #[]) 0] 1)=w5 at *;rw [rounds_succ];go_wp2_with fail;rw [rounds_succ];go_upto_region 15 with (fail);have hb6:Below w5.heap.size w5 (w5.alloc (.map #[] 0)):=(Below.refl _ w5).alloc (Nat.le_refl _) _;have HMu:RowKit.Hid (SMap (w5.alloc (.map #[] 0)) w5.heap.size [] 0):=Lib.hid ⟨heap_alloc_new _ _,fun _ h=>absurd h List.not_mem_nil,by simp,fun _ h=>absurd h List.not_mem_nil,by simp⟩;have HM6:=Lib.hid (HM4.out.kept (hb6.block Mc HM4.out.lt));have HS6:=Lib.hid (HS4.out.below hb6 (HKK.out _ _ HS4.out.K (hb6.mono (by have:=HS4.out.lt;omega))));have HG6:=Lib.hid (grown_trans HG4.out (grown_below hb6 (some M)));have hMu:Mc < w5.heap.size:=HM4.out.lt;have hMu0:M < w5.heap.size:=HS4.out.lt;have hMu1:b0 < w5.heap.size:=lt_of_block HS4.out.blk;have hMu2:w.heap.size≤w5.heap.size:=HG4.out.size;clear hb6 HM4 HS4 HG4;generalize w5.heap.size=Mu at *;generalize w5.alloc (.map #[] 0)=w6 at *;have hrg:=run_range_map (P:=Tryz.prog) w6 84 9 85 Mc #[newE a (.agg #[]) 0] 1 Tryz.underlying84 HM6.out.blk;go_wp2_with fail;clear hrg;have hb7:Below w6.heap.size w6 (w6.alloc (.mapIter (some Mc) 1 #[] 1)):=(Below.refl _ w6).alloc (Nat.le_refl _) _;have hi7:(w6.alloc (.mapIter (some Mc) 1 #[] 1)).heap[w6.heap.size]? = some (.mapIter (some Mc) 1 #[] 1):=heap_alloc_new _ _;have HMu7:=Lib.hid (HMu.out.kept (hb7.block Mu HMu.out.lt));have HM7:=Lib.hid (HM6.out.kept (hb7.block Mc HM6.out.lt));have HS7:=Lib.hid (HS6.out.below hb7 (HKK.out _ _ HS6.out.K (hb7.mono (by have:=HS6.out.lt;omega))));have HG7:=Lib.hid (grown_trans HG6.out (grown_below hb7 (some M)));have hIt:Mu < w6.heap.size:=HMu.out.lt;have hIt2:w.heap.size≤w6.heap.size:=HG6.out.size;clear hb7 HMu HM6 HS6 HG6;generalize w6.heap.size=It at *;generalize w6.alloc (.mapIter (some Mc) 1 #[] 1)=w7 at *;refine wp_loop_rounds 2 ?_;rw [rounds_succ];rcases run_next_at (P:=Tryz.prog) w7 0 It Mc 1 1 #[] #[newE a (.agg #[]) 0] 1 hi7 HM7.out.blk (fun x hx=>by rw [List.mem_singleton.1 hx];exact Nat.lt_succ_self 0) (Nat.le_refl _) with ⟨h0,_⟩ | ⟨e,he,w71,hal,hrun⟩
 ·rw [left_one] at h0;exact absurd h0 (by simp)
 rw [left_one] at he;obtain rfl:e=newE a (.agg #[]) 0:=by simpa using he
 have hnx:∀ ty,(Instr.next (.pointer (some ⟨It,0,none⟩)) false ty).run Tryz.prog w7=.ok (.tuple #[.bool true,.string a,.agg #[]]) (setBlock w71 It (.mapIter (some Mc) 1 #[0] 1)):=fun _=>hrun;obtain ⟨hi8,hg8⟩:=idRel_next (c:=1) (s2:=#[0]) hi7 hal;have hk8:K (setBlock w71 It (.mapIter (some Mc) 1 #[0] 1)):=HKK.out _ _ HS7.out.K (below_grown hg8 (by omega) (lt_of_block hi7));have HS8:=Lib.hid (HS7.out.other hg8 (by omega) (by omega) (keeps_iter hi7 hg8) hk8);have HM8:=Lib.hid (HM7.out.kept (hg8.block Mc HM7.out.lt (by intro e;injection e with e;omega)));have HMu8:=Lib.hid (HMu7.out.kept (hg8.block Mu HMu7.out.lt (by intro e;injection e with e;omega)));have HG8:=Lib.hid (grown_new HG7.out hg8 hIt2);have HI8:=Lib.hid hi8;have hen:=run_entry_at (P:=Tryz.prog) (setBlock w71 It (.mapIter (some Mc) 1 #[0] 1)) It Mc 1 #[] #[newE a (.agg #[]) 0] 1 (newE a (.agg #[]) 0) hi8 HM8.out.blk (by simp) (by simp);clear hrun hal hi8 hg8 hk8 he hi7 HMu7 HM7 HS7 HG7;generalize setBlock w71 It (.mapIter (some Mc) 1 #[0] 1)=w8 at *;have hen':(Instr.entry (.pointer (some ⟨It,0,none⟩))).run Tryz.prog w8=.ok (.tuple #[.string a,.agg #[]]) w8:=hen;clear hen;go_wp2_with fail;refine (HU.out w8 _ a HS8.out HGA.out).mono ?_;rintro e w9 ⟨v,ids9,rfl,⟨A9,c9,rfl,hc9,hC9⟩,hS9,hg9,hk9⟩;rw [HAA.out] at hC9 hc9 ⊢;rw [show ([a]:List ByteArray).length=1 from rfl] at hC9 hc9 ⊢;obtain ⟨ad9,rfl,hx9⟩:=Kd.at_string hC9 0 (by omega) (by omega);have hx:w9.cell? (ad9.add 0)=some (.string a):=hx9;have hx':w9.cell? ad9=some (.string a):=hx9;have hi9:=(hg9.block It (lt_of_block HI8.out) (by intro e;injection e with e;omega)).trans HI8.out;have HM9:=Lib.hid (HM8.out.kept (hg9.block Mc HM8.out.lt (by intro e;injection e with e;omega)));have HMu9:=Lib.hid (HMu8.out.kept (hg9.block Mu HMu8.out.lt (by intro e;injection e with e;omega)));have HG9:=Lib.hid (grown_trans HG8.out hg9);clear hx9 hC9 hS9 hg9 hk9 hen' hnx HI8 HM8 HMu8 HG8 HS8;go_wp2_with fail;refine wp_loop_rounds 2 ?_;rw [rounds_succ];go_wp2_with fail;rw [rounds_succ];go_wp2_with fail;rw [rounds_succ];rcases run_next_at (P:=Tryz.prog) w9 0 It Mc 1 1 #[0] #[newE a (.agg #[]) 0] 1 hi9 HM9.out.blk (fun x hx=>by rw [List.mem_singleton.1 hx];exact Nat.lt_succ_self 0) (Nat.le_refl _) with ⟨h0,hrun⟩ | ⟨e,he,_,_,_⟩;rotate_left
 ·rw [show (#[0]:Array Nat)=#[(newE a (.agg #[]) 0).born] from rfl,left_none] at he;exact absurd he (by simp)
 have hnx:∀ ty,(Instr.next (.pointer (some ⟨It,0,none⟩)) false ty).run Tryz.prog w9=.ok (.tuple #[.bool false]) w9:=fun _=>hrun;clear hrun h0 hx hx';go_upto_region 25 with (fail);clear hnx hi9;have HK:=Lib.hid (callsIn_wide.1 (Tryz.maps_Keys_38 (some Mc) w9));have HSo:=Lib.hid (sorted_one w9 Mc 0 a (.agg #[]) HM9.out hsz);go_wp2_with fail;refine HK.out.mono ?_;rintro e w10 ⟨rfl,rfl⟩;clear HK;go_wp2_with fail;refine HSo.out.mono ?_;rintro e w10 ⟨g,cap,rfl,hcg,hb10⟩;have hb9:Below w9.heap.size w9 (w9.alloc (.cells #[.map (some Mc)] 84)):=(Below.refl _ w9).alloc (Nat.le_refl _) _;have hb10':=hb9.trans (hb10.mono hb9.size);have HMu10:=HMu9.out.kept (hb10'.block Mu HMu9.out.lt);have HG10:=Lib.hid (grown_trans HG9.out (grown_below hb10' (some M)));obtain ⟨v,hlk,hz,_⟩:=smap_look Tryz.underlying84 Tryz.underlying9 zero_unit HMu10 a;obtain rfl:=hz (by simp);rw [show Lib.containsS (([]:List MapEntry).map keyS) a=false from rfl] at hlk;clear hb9 hb10 hb10' HMu9 HSo HM9 HMu10 hz HG9;go_wp2_with fail;refine wp_loop_rounds 2 ?_;rw [rounds_succ];go_upto_region 29 with (fail);have hb11:Below w10.heap.size w10 (w10.alloc (.cells #[] 85)):=(Below.refl _ w10).alloc (Nat.le_refl _) _;have HG11:=Lib.hid (grown_trans HG10.out (grown_below hb11 (some M)));clear hb11 hlk hcg HG10;generalize w10.alloc (.cells #[] 85)=w11 at *;have HR11:RowKit.Hid (Kd.string.R 9 w11 w11.heap.size (fun _=>True) (.slice none 0 0) []):=Lib.hid (Kd.R_nil _ _ _ _ _);have HB11:=Lib.hid (Below.refl w11.heap.size w11);go_wp2_with (at_builtin;refine Kd.R_append Kd.string (w0:=w11) w11.heap.size rfl _ _ 27 9 (.string ⟨#[]⟩) 16 rfl Tryz.underlying27 infoStr rfl (by decide) (by decide) (.slice none 0 0) [] a [.string a] (fun _=>True) (fun _=>False) rfl (by simp [go_sem]) rfl (fun _ h=>h.elim) (fun k hk=>trivial) HR11.out HB11.out (Nat.le_refl _) (by decide) ?_;intro v1 w12 hR12 hB12 hg12 hat12;obtain ⟨A12,c12,hv12⟩:=Kd.R_slice hR12;subst hv12;clear hR12 hg12 hat12);rw [rounds_succ];go_wp2;refine bodyPost_ret (results_tmp rfl _ _ _) rfl ?_;exact ⟨A12,c12,rfl,grown_trans HG11.out (grown_below hB12 (some M))⟩
end Go.Proofs.YtninnmdpnoebaaaGreatDoor.Hand
end
section
namespace Go.Proofs.YtninnmdpnoebaaaGreatDoor.Hand
open Go.RowKit Go.Proofs.YtninnmdpnoebaaaGreatDoorW.PrintWords Go.Proofs.YtninnmdpnoebaaaGreatDoorW.PrintLast Go.Proofs.YtninnmdpnoebaaaGreatDoorW.PrintMore
open Go.Proofs.YtninnmdpnoebaaaGreatDoor.PRa
set_option linter.unusedVariables false
set_option linter.unusedSimpArgs false
set_option maxHeartbeats 4000000 in
set_option maxRecDepth 100000 in
theorem meet_nil (w:World):Calls Tryz.prog 53 #[.slice none 0 0] w fun e w'=>e=.returned (.tuple #[.int .i64 0,.int .i64 0,.bool false])∧Below w.heap.size w w':=by
 go_enter Tryz.func53,Tryz.ntmps53;go_wp2_with fail;refine wp_loop_rounds 1 ?_;rw [rounds_succ];go_wp2;refine bodyPost_ret (results_tmp3 rfl _ _ _) rfl ?_;exact ⟨rfl,Below.refl _ _⟩
set_option maxHeartbeats 4000000 in
set_option maxRecDepth 100000 in
theorem paths_nil (w:World):Calls Tryz.prog 54 #[.slice none 0 0] w fun e w'=>e=.returned (.slice none 0 0)∧Below w.heap.size w w':=by
 go_enter Tryz.func54,Tryz.ntmps54;go_wp2_with fail;refine wp_loop_rounds 1 ?_;rw [rounds_succ];go_wp2;go_ret;exact ⟨rfl,Below.refl _ _⟩
set_option maxHeartbeats 4000000 in
set_option maxRecDepth 100000 in
theorem check18_nil (w:World):Calls Tryz.prog 32 #[.slice none 0 0] w fun e w'=>e=.returned (.int .i64 0)∧Below w.heap.size w w':=by
 go_enter Tryz.func32,Tryz.ntmps32;go_wp2_with fail;refine wp_loop_rounds 1 ?_;rw [rounds_succ];go_wp2_with fail;refine (paths_nil _).mono ?_;rintro e w1 ⟨rfl,hb1⟩;go_wp2_with fail;refine (meet_nil _).mono ?_;rintro e w2 ⟨rfl,hb2⟩;have HB:=Lib.hid (hb1.trans (hb2.mono hb1.size));clear hb1 hb2;go_wp2;go_ret;exact ⟨rfl,HB.out⟩
set_option maxHeartbeats 4000000 in
set_option maxRecDepth 100000 in
theorem write_nil (w:World):Calls Tryz.prog 33 #[.agg #[.slice none 0 0],.slice none 0 0,.string ⟨#[]⟩] w fun e w'=>∃ A c,e=.returned (.tuple #[.agg #[.slice A 1 c],.string exT,.int .i64 0])∧Kd.R k75 75 w' w.heap.size (fun _=>True) (.slice A 1 c) exI1∧Below w.heap.size w w':=by
 go_enter Tryz.func33,Tryz.ntmps33;go_upto_region 1 with (fail);generalize hw2:(w.alloc (.cells #[.slice none 0 0] 24)).alloc (.cells #[.slice none 0 0] 24)=w2;have hz1:(w.alloc (.cells #[.slice none 0 0] 24)).heap.size=w.heap.size+1:=Array.size_push _;have hb2:Below w.heap.size w w2:=by rw [← hw2];exact ((Below.refl _ w).alloc (Nat.le_refl _) _).alloc (by omega) _
 have kv:w2.heap[w.heap.size]? = some (.cells #[.slice none 0 0] 24 (0,0)):=by rw [← hw2,heap_alloc_old _ _ (by omega)];exact heap_alloc_new _ _
 have kg:w2.heap[w.heap.size+1]? = some (.cells #[.slice none 0 0] 24 (0,0)):=by rw [← hw2,← hz1];exact heap_alloc_new _ _
 clear hw2 hz1;have HB2:=Lib.hid hb2;have HV2:=Lib.hid kv;have HG2:=Lib.hid kg;clear hb2 kv kg;go_wp2_with fail;refine wp_loop_rounds 1 ?_;rw [rounds_succ];go_wp2_with fail;refine (g15Body.calls 40 none 0 [] _ _ _ (Kd.C_nil _ _) (Nat.le_refl _) ex_tree).mono ?_;rintro e w3 ⟨rfl,hb3⟩;have HB3:=Lib.hid (HB2.out.trans (hb3.mono HB2.out.size));have HV3:=Lib.hid ((hb3.block _ (lt_of_block HV2.out)).trans HV2.out);have HG3:=Lib.hid ((hb3.block _ (lt_of_block HG2.out)).trans HG2.out);clear hb3 HB2 HV2 HG2;have e0:w3.cell? ⟨w.heap.size,0,none⟩=some (.slice none 0 0):=by rw [blk_cell HV3.out 0];rfl
 go_wp2_with fail;refine (g17Put.calls 200 (fun _=>False) (.slice none 0 0) [] 2 ⟨#[]⟩ exI1 exT 0 w w3 HB3.out (Kd.R_nil _ _ _ _ _) ex_put1).mono ?_;rintro e w4 ⟨v,rfl,hR,hb4,hk4⟩;obtain ⟨A,c,rfl⟩:=Kd.R_slice hR;have hg4:=(hk4.2 _ (lt_of_block HG3.out) (fun h=>h)).trans HG3.out;have HR:=Lib.hid (Kd.R_types hR hg4 (by decide));have HB4:=Lib.hid hb4;have HG4:=Lib.hid hg4;have f0:=blk_frozen hg4 0;have e1:w4.cell? ⟨w.heap.size+1,0,none⟩=some (.slice none 0 0):=by rw [blk_cell hg4 0];rfl
 clear hR hk4 hb4 hg4 HB3 HV3 HG3 e0;go_wp2;refine bodyPost_ret (results_ctt rfl _ _ (w.heap.size+1) 24 #[.slice A 1 c] (0,0) _ rfl (blk_put HG4.out 0 _ rfl) Tryz.underlying24 rfl (by kernel_rfl)) rfl ?_;refine ⟨A,c,rfl,?_,?_⟩
 ·exact Kd.R_mono (Kd.R_far (p:=⟨w.heap.size+1,0,none⟩) HR.out (fun _ hk=>hk.2) _) (fun _ _=>trivial)
 ·exact below_set HB4.out (Nat.le_succ _)
set_option maxHeartbeats 4000000 in
set_option maxRecDepth 100000 in
theorem writeAll_nil (w:World):Calls Tryz.prog 18 #[.agg #[.slice none 0 0],.slice none 0 0] w fun e w'=>∃ A c,e=.returned (.tuple #[.agg #[.slice A 1 c],.string exT,.int .i64 0])∧Kd.R k75 75 w' w.heap.size (fun _=>True) (.slice A 1 c) exI1∧Below w.heap.size w w':=by
 go_enter Tryz.func18,Tryz.ntmps18;go_upto_region 1 with (fail);generalize hw2:(w.alloc (.cells #[.slice none 0 0] 24)).alloc (.cells #[.slice none 0 0] 24)=w2;have hz1:(w.alloc (.cells #[.slice none 0 0] 24)).heap.size=w.heap.size+1:=Array.size_push _;have hb2:Below w.heap.size w w2:=by rw [← hw2];exact ((Below.refl _ w).alloc (Nat.le_refl _) _).alloc (by omega) _
 have kv:w2.heap[w.heap.size]? = some (.cells #[.slice none 0 0] 24 (0,0)):=by rw [← hw2,heap_alloc_old _ _ (by omega)];exact heap_alloc_new _ _
 have kg:w2.heap[w.heap.size+1]? = some (.cells #[.slice none 0 0] 24 (0,0)):=by rw [← hw2,← hz1];exact heap_alloc_new _ _
 clear hw2 hz1;have HB2:=Lib.hid hb2;have HV2:=Lib.hid kv;have HG2:=Lib.hid kg;clear hb2 kv kg;go_wp2_with fail;refine (check18_nil _).mono ?_;rintro e w3 ⟨rfl,hb3⟩;have HB3:=Lib.hid (HB2.out.trans (hb3.mono HB2.out.size));have HV3:=Lib.hid ((hb3.block _ (lt_of_block HV2.out)).trans HV2.out);have HG3:=Lib.hid ((hb3.block _ (lt_of_block HG2.out)).trans HG2.out);clear hb3 HB2 HV2 HG2;have e0:w3.cell? ⟨w.heap.size,0,none⟩=some (.slice none 0 0):=by rw [blk_cell HV3.out 0];rfl
 go_wp2_with fail;refine (write_nil w3).mono ?_;rintro e w4 ⟨A,c,rfl,hR,hb4⟩;have hg4:=(hb4.block _ (lt_of_block HG3.out)).trans HG3.out;have HR:=Lib.hid (Kd.R_types (Kd.R_lower hR HB3.out.size) hg4 (by decide));have HB4:=Lib.hid (HB3.out.trans (hb4.mono HB3.out.size));have HG4:=Lib.hid hg4;have f0:=blk_frozen hg4 0;have e1:w4.cell? ⟨w.heap.size+1,0,none⟩=some (.slice none 0 0):=by rw [blk_cell hg4 0];rfl
 clear hR hb4 hg4 HB3 HV3 HG3 e0;go_wp2;refine bodyPost_ret (results_ctt rfl _ _ (w.heap.size+1) 24 #[.slice A 1 c] (0,0) _ rfl (blk_put HG4.out 0 _ rfl) Tryz.underlying24 rfl (by kernel_rfl)) rfl ?_;refine ⟨A,c,rfl,?_,?_⟩
 ·exact Kd.R_mono (Kd.R_far (p:=⟨w.heap.size+1,0,none⟩) HR.out (fun _ hk=>hk.2) _) (fun _ _=>trivial)
 ·exact below_set HB4.out (Nat.le_succ _)
end Go.Proofs.YtninnmdpnoebaaaGreatDoor.Hand
end
section
namespace Go.Proofs.YtninnmdpnoebaaaGreatDoor.Hand
open Go.RowKit Go.Proofs.YtninnmdpnoebaaaGreatDoorW.PrintWords Go.Proofs.YtninnmdpnoebaaaGreatDoorW.PrintLast Go.Proofs.YtninnmdpnoebaaaGreatDoorW.PrintMore
open Go.Proofs.YtninnmdpnoebaaaGreatDoor.PRa
set_option linter.unusedVariables false
set_option linter.unusedSimpArgs false
theorem C_new (w:World) (l:List ByteArray) (ty:TypeId) (hl:l.length≤9223372036854775807):Kd.string.C (w.alloc (.cells ((l.map Value.string).toArray) ty)) (some ⟨w.heap.size,0,none⟩) l.length l:=by
 refine Kd.C_of_reads (d:=ByteArray.empty) (h1:=fun _=>rfl) ⟨rfl,hl,fun _=>⟨_,rfl,fun j hj=>?_⟩⟩;have h:(w.alloc (.cells ((l.map Value.string).toArray) ty)).heap[w.heap.size]? = some (.cells ((l.map Value.string).toArray) ty):=heap_alloc_new w _;rw [show (⟨w.heap.size,0,none⟩:Addr).add j=⟨w.heap.size,j,none⟩ by simp [Addr.add,eq_comm],Lib.cell_of_heap h];simp [hj]
theorem put_kept (k:Nat) (v:Value) (l:List S75) (kd:Int) (body:ByteArray) (r:List S75) (id:ByteArray) (w0 w:World) (hB:Below w0.heap.size w0 w) (hR:Kd.R k75 75 w w0.heap.size (fun _=>True) v l) (h:g17Put.f k l kd body=some (r,id,0)) :
  Calls Tryz.prog 20 #[.agg #[v],.agg #[.int .i64 kd,.string body]] w fun e w'=>∃ A c,e=.returned (.tuple #[.agg #[.slice A r.length c],.string id,.int .i64 0])∧Kd.R k75 75 w' w0.heap.size (fun _=>True) (.slice A r.length c) r∧Below w0.heap.size w0 w' ∧
   ∀ (g t:Nat) (cells:Array Value),w.heap[g]? = some (.cells cells t (0,0))→(∀ q,q∈75 :: (k75).E→q≠t)→w'.heap[g]? = some (.cells cells t (0,0)):=by
 refine (g17Put.calls k _ v l kd body r id 0 w0 w hB (Kd.R_bound hR) h).mono ?_;rintro e w' ⟨v',rfl,hR',hb,hk⟩;obtain ⟨A,c,rfl⟩:=Kd.R_slice hR';refine ⟨A,c,rfl,Kd.R_mono hR' (fun _ _=>trivial),hb,fun g t cells hg ht=>(hk.2 g (lt_of_block hg) ?_).trans hg⟩;rintro ⟨_,_,_,q,hq,cells',hc⟩;rw [hg] at hc;injection hc with hc;injection hc with _ h2 _;exact ht q hq h2.symm
set_option maxHeartbeats 4000000 in
set_option maxRecDepth 100000 in
theorem row_any (w:World):Calls Tryz.prog 9 #[] w fun e w'=>∃ A c,e=.returned (.tuple #[.agg #[.slice A 3 c,.slice none 0 0,.slice none 0 0,.slice none 0 0],.string exA,.string exB])∧Kd.C k75 w' A 3 exI3∧3≤c∧Below w.heap.size w w':=by
 go_enter Tryz.func9,Tryz.ntmps9;go_wp2_with fail;generalize hw2:(w.alloc (.cells #[.slice none 0 0,.slice none 0 0,.slice none 0 0,.slice none 0 0] 29)).alloc (.cells #[.string ⟨#[97]⟩,.string ⟨#[97,64,98]⟩,.int .i64 5,.int .i64 60] 51)=w2;have hz1:(w.alloc (.cells #[.slice none 0 0,.slice none 0 0,.slice none 0 0,.slice none 0 0] 29)).heap.size=w.heap.size+1:=Array.size_push _;have HB2:=Lib.hid (show Below w.heap.size w w2 by rw [← hw2];exact ((Below.refl _ w).alloc (Nat.le_refl _) _).alloc (by omega) _);have HV2:=Lib.hid (show w2.heap[w.heap.size]? = some (.cells #[.slice none 0 0,.slice none 0 0,.slice none 0 0,.slice none 0 0] 29 (0,0)) by rw [← hw2,heap_alloc_old _ _ (by omega)];exact heap_alloc_new _ _);have HP2:=Lib.hid (show w2.heap[w.heap.size+1]? = some (.cells #[.string ⟨#[97]⟩,.string ⟨#[97,64,98]⟩,.int .i64 5,.int .i64 60] 51 (0,0)) by rw [← hw2,← hz1];exact heap_alloc_new _ _);clear hw2 hz1;refine (writeAll_nil w2).mono ?_;rintro e w3 ⟨A1,c1,rfl,hR,hb3⟩;have HR3:=Lib.hid (Kd.R_lower hR HB2.out.size);have HB3:=Lib.hid (HB2.out.trans (hb3.mono HB2.out.size));have HV3:=Lib.hid ((hb3.block _ (lt_of_block HV2.out)).trans HV2.out);have HP3:=Lib.hid ((hb3.block _ (lt_of_block HP2.out)).trans HP2.out);clear hR hb3 HB2 HV2 HP2;go_upto_region 3 with (fail);have hs3:=HB3.out.size;generalize hw4:w3.alloc (.cells #[.slice A1 1 c1] 24)=w4;have HR4:=Lib.hid (show Kd.R k75 75 w4 w.heap.size (fun _=>True) (.slice A1 1 c1) exI1 by rw [← hw4];exact Kd.R_alloc HR3.out _);have hb4:Below w3.heap.size w3 w4:=by rw [← hw4];exact (Below.refl _ w3).alloc (Nat.le_refl _) _
 have HS4:=Lib.hid (show w4.heap[w3.heap.size]? = some (.cells #[.slice A1 1 c1] 24 (0,0)) by rw [← hw4];exact heap_alloc_new _ _);have HB4:=Lib.hid (HB3.out.trans (hb4.mono HB3.out.size));have HV4:=Lib.hid ((hb4.block _ (lt_of_block HV3.out)).trans HV3.out);have HP4:=Lib.hid ((hb4.block _ (lt_of_block HP3.out)).trans HP3.out);clear hw4 hb4 HR3 HB3 HV3 HP3;generalize w3.heap.size=g2 at *;have p0:w4.cell? ⟨w.heap.size+1,0,none⟩=some (.string ⟨#[97]⟩):=by rw [blk_cell HP4.out 0];rfl
 have p1:w4.cell? ⟨w.heap.size+1,1,none⟩=some (.string ⟨#[97,64,98]⟩):=by rw [blk_cell HP4.out 1];rfl
 have p2:w4.cell? ⟨w.heap.size+1,2,none⟩=some (.int .i64 5):=by rw [blk_cell HP4.out 2];rfl
 have p3:w4.cell? ⟨w.heap.size+1,3,none⟩=some (.int .i64 60):=by rw [blk_cell HP4.out 3];rfl
 go_wp2_with fail;refine (g16Body.calls 200 exT none 0 [] ⟨#[97]⟩ ⟨#[97,64,98]⟩ 5 60 ⟨#[97]⟩ ⟨#[97,64,98]⟩ 5 60 ⟨#[120,10]⟩ exOne 0 w4 (Kd.C_nil _ _) (Nat.le_refl _) ex_one).mono ?_;rintro e w5 ⟨rfl,hb5⟩;have HR5:=Lib.hid (Kd.R_below HR4.out hb5);have HB5:=Lib.hid (HB4.out.trans (hb5.mono HB4.out.size));have HV5:=Lib.hid ((hb5.block _ (lt_of_block HV4.out)).trans HV4.out);have HP5:=Lib.hid ((hb5.block _ (lt_of_block HP4.out)).trans HP4.out);have HS5:=Lib.hid ((hb5.block _ (lt_of_block HS4.out)).trans HS4.out);clear hb5 HR4 HB4 HV4 HP4 HS4 p0 p1 p2 p3;have e0:w5.cell? ⟨g2,0,none⟩=some (.slice A1 1 c1):=by rw [blk_cell HS5.out 0];rfl
 go_wp2_with fail;refine (put_kept 300 _ exI1 3 exOne exI2 exA w w5 HB5.out HR5.out ex_put2).mono ?_;rintro e w6 ⟨A2,c2,rfl,hR,hb6,hk⟩;have hS6:=hk _ _ _ HS5.out (by decide);have HV6:=Lib.hid (hk _ _ _ HV5.out (by decide));have HP6:=Lib.hid (hk _ _ _ HP5.out (by decide));have HR6:=Lib.hid (Kd.R_types hR hS6 (by decide));have HB6:=Lib.hid hb6;have HS6:=Lib.hid hS6;have e1:w6.cell? ⟨g2,0,none⟩=some (.slice A1 1 c1):=by rw [blk_cell hS6 0];rfl
 have f1:=blk_frozen hS6 0;clear hR hb6 hk hS6 HR5 HB5 HV5 HP5 HS5 e0;go_upto_region 5 with (fail);have n1:=blk_ne HV6.out HS6.out (by decide);have n2:=blk_ne HP6.out HS6.out (by decide);generalize hw7:w6.setCell ⟨g2,0,none⟩ (.slice A2 2 c2)=w7;have HR7:=Lib.hid (show Kd.R k75 75 w7 w.heap.size (fun _=>True) (.slice A2 2 c2) exI2 by rw [← hw7];exact Kd.R_mono (Kd.R_far (p:=⟨g2,0,none⟩) HR6.out (fun _ hk=>hk.2) _) (fun _ _=>trivial));have HB7:=Lib.hid (show Below w.heap.size w w7 by rw [← hw7];exact below_set HB6.out hs3);have HV7:=Lib.hid (show w7.heap[w.heap.size]? = some (.cells #[.slice none 0 0,.slice none 0 0,.slice none 0 0,.slice none 0 0] 29 (0,0)) by rw [← hw7];exact (Below.heap_setCell w6 _ _ _ n1).trans HV6.out);have HP7:=Lib.hid (show w7.heap[w.heap.size+1]? = some (.cells #[.string ⟨#[97]⟩,.string ⟨#[97,64,98]⟩,.int .i64 5,.int .i64 60] 51 (0,0)) by rw [← hw7];exact (Below.heap_setCell w6 _ _ _ n2).trans HP6.out);have HS7:=Lib.hid (show w7.heap[g2]? = some (.cells #[.slice A2 2 c2] 24 (0,0)) by rw [← hw7];exact blk_put HS6.out 0 _ rfl);clear hw7 HR6 HB6 HV6 HP6 HS6 n1 n2 e1 f1;have p0:w7.cell? ⟨w.heap.size+1,0,none⟩=some (.string ⟨#[97]⟩):=by rw [blk_cell HP7.out 0];rfl
 have p1:w7.cell? ⟨w.heap.size+1,1,none⟩=some (.string ⟨#[97,64,98]⟩):=by rw [blk_cell HP7.out 1];rfl
 have p2:w7.cell? ⟨w.heap.size+1,2,none⟩=some (.int .i64 5):=by rw [blk_cell HP7.out 2];rfl
 have p3:w7.cell? ⟨w.heap.size+1,3,none⟩=some (.int .i64 60):=by rw [blk_cell HP7.out 3];rfl
 have q0:(w7.alloc (.cells #[.string exA] 9)).cell? ⟨w.heap.size+1,0,none⟩=some (.string ⟨#[97]⟩):=by rw [blk_cell (blk_alloc HP7.out _) 0];rfl
 have q1:(w7.alloc (.cells #[.string exA] 9)).cell? ⟨w.heap.size+1,1,none⟩=some (.string ⟨#[97,64,98]⟩):=by rw [blk_cell (blk_alloc HP7.out _) 1];rfl
 have q2:(w7.alloc (.cells #[.string exA] 9)).cell? ⟨w.heap.size+1,2,none⟩=some (.int .i64 5):=by rw [blk_cell (blk_alloc HP7.out _) 2];rfl
 have q3:(w7.alloc (.cells #[.string exA] 9)).cell? ⟨w.heap.size+1,3,none⟩=some (.int .i64 60):=by rw [blk_cell (blk_alloc HP7.out _) 3];rfl
 go_wp2_with fail;have hC:=C_new w7 [exA] 9 (by decide);have hC:Kd.string.C (w7.alloc (.cells #[.string exA] 9)) (some ⟨w7.heap.size,0,none⟩) 1 [exA]:=hC;have hb8:Below w7.heap.size w7 (w7.alloc (.cells #[.string exA] 9)):=(Below.refl _ w7).alloc (Nat.le_refl _) _;have HR8:=Lib.hid (Kd.R_below HR7.out hb8);have HB8:=Lib.hid (HB7.out.trans (hb8.mono HB7.out.size));have HV8:=Lib.hid ((hb8.block _ (lt_of_block HV7.out)).trans HV7.out);have HS8:=Lib.hid ((hb8.block _ (lt_of_block HS7.out)).trans HS7.out);clear hb8 HR7 HB7 HV7 HP7 HS7 p0 p1 p2 p3 q0 q1 q2 q3;generalize w7.heap.size=gA at *;generalize w7.alloc (.cells #[.string exA] 9)=w8 at *;refine (g16Body.calls 200 exT (some ⟨gA,0,none⟩) 1 [exA] ⟨#[97]⟩ ⟨#[97,64,98]⟩ 5 60 ⟨#[97]⟩ ⟨#[97,64,98]⟩ 5 60 ⟨#[121,10]⟩ exTwo 0 w8 hC (Nat.le_refl _) ex_two).mono ?_;rintro e w9 ⟨rfl,hb9⟩;have HR9:=Lib.hid (Kd.R_below HR8.out hb9);have HB9:=Lib.hid (HB8.out.trans (hb9.mono HB8.out.size));have HV9:=Lib.hid ((hb9.block _ (lt_of_block HV8.out)).trans HV8.out);have HS9:=Lib.hid ((hb9.block _ (lt_of_block HS8.out)).trans HS8.out);clear hb9 hC HR8 HB8 HV8 HS8;have e0:w9.cell? ⟨g2,0,none⟩=some (.slice A2 2 c2):=by rw [blk_cell HS9.out 0];rfl
 go_wp2_with fail;refine (put_kept 300 _ exI2 3 exTwo exI3 exB w w9 HB9.out HR9.out ex_put3).mono ?_;rintro e wa ⟨A3,c3,rfl,hR,hba,hk⟩;have hSa:=hk _ _ _ HS9.out (by decide);have HVa:=Lib.hid (hk _ _ _ HV9.out (by decide));have HRa:=Lib.hid (Kd.R_types hR hSa (by decide));have HBa:=Lib.hid hba;have HSa:=Lib.hid hSa;have e1:wa.cell? ⟨g2,0,none⟩=some (.slice A2 2 c2):=by rw [blk_cell hSa 0];rfl
 have f1:=blk_frozen hSa 0;clear hR hba hk hSa HR9 HB9 HV9 HS9 e0;go_upto_region 7 with (fail);have n1:=blk_ne HVa.out HSa.out (by decide);generalize hwb:wa.setCell ⟨g2,0,none⟩ (.slice A3 3 c3)=wb;have HRb:=Lib.hid (show Kd.R k75 75 wb w.heap.size (fun _=>True) (.slice A3 3 c3) exI3 by rw [← hwb];exact Kd.R_mono (Kd.R_far (p:=⟨g2,0,none⟩) HRa.out (fun _ hk=>hk.2) _) (fun _ _=>trivial));have HBb:=Lib.hid (show Below w.heap.size w wb by rw [← hwb];exact below_set HBa.out hs3);have hVb:wb.heap[w.heap.size]? = some (.cells #[.slice none 0 0,.slice none 0 0,.slice none 0 0,.slice none 0 0] 29 (0,0)):=by rw [← hwb];exact (Below.heap_setCell wa _ _ _ n1).trans HVa.out
 have HSb:=Lib.hid (show wb.heap[g2]? = some (.cells #[.slice A3 3 c3] 24 (0,0)) by rw [← hwb];exact blk_put HSa.out 0 _ rfl);have HVb:=Lib.hid hVb;clear hwb HRa HBa HVa HSa n1 e1 f1;have e0:wb.cell? ⟨g2,0,none⟩=some (.slice A3 3 c3):=by rw [blk_cell HSb.out 0];rfl
 have v0:wb.cell? ⟨w.heap.size,0,none⟩=some (.slice none 0 0):=by rw [blk_cell hVb 0];rfl
 have v1:wb.cell? ⟨w.heap.size,1,none⟩=some (.slice none 0 0):=by rw [blk_cell hVb 1];rfl
 have v2:wb.cell? ⟨w.heap.size,2,none⟩=some (.slice none 0 0):=by rw [blk_cell hVb 2];rfl
 have v3:wb.cell? ⟨w.heap.size,3,none⟩=some (.slice none 0 0):=by rw [blk_cell hVb 3];rfl
 have f0:=blk_frozen hVb 0;have f1:=blk_frozen hVb 1;have f2:=blk_frozen hVb 2;have f3:=blk_frozen hVb 3;clear hVb;go_wp2;refine bodyPost_ret (results_ctt rfl _ _ w.heap.size 29 #[.slice A3 3 c3,.slice none 0 0,.slice none 0 0,.slice none 0 0] (0,0) _ rfl (blk_put (blk_put (blk_put (blk_put HVb.out 0 _ rfl) 1 _ rfl) 2 _ rfl) 3 _ rfl) Tryz.underlying29 rfl (by kernel_rfl)) rfl ?_;have hR:=Kd.R_types HRb.out HVb.out (by decide);have hR:=Kd.R_far (p:=⟨w.heap.size,0,none⟩) hR (fun _ hk=>hk.2) (.slice A3 3 c3);have hR:=Kd.R_far (p:=⟨w.heap.size,1,none⟩) hR (fun _ hk=>hk.2) (.slice none 0 0);have hR:=Kd.R_far (p:=⟨w.heap.size,2,none⟩) hR (fun _ hk=>hk.2) (.slice none 0 0);have hR:=Kd.R_far (p:=⟨w.heap.size,3,none⟩) hR (fun _ hk=>hk.2) (.slice none 0 0);obtain ⟨_,hc,hC⟩:=Kd.R_reads' hR;exact ⟨A3,c3,rfl,hC,hc,below_set (below_set (below_set (below_set HBb.out (Nat.le_refl _)) (Nat.le_refl _)) (Nat.le_refl _)) (Nat.le_refl _)⟩
end Go.Proofs.YtninnmdpnoebaaaGreatDoor.Hand
end
section
namespace Go.Proofs.YtninnmdpnoebaaaGreatDoor.Hand
open Go.RowKit Go.Proofs.YtninnmdpnoebaaaGreatDoorW.PrintWords Go.Proofs.YtninnmdpnoebaaaGreatDoorW.PrintLast Go.Proofs.YtninnmdpnoebaaaGreatDoorW.PrintMore
open Go.ChangeMaps
set_option linter.unusedVariables false
set_option linter.unusedSimpArgs false
set_option maxHeartbeats 4000000 in
set_option maxRecDepth 100000 in
theorem depth_one (p:Addr) (A:Option Addr) (c:Nat) (w:World):Calls Tryz.prog 21 #[.pointer (some p),.slice A 1 c] w fun e w'=>e=.returned (.int .i64 0)∧w'=w:=by
 go_enter Tryz.func21,Tryz.ntmps21;go_wp2;refine bodyPost_ret (results_tmp rfl _ _ _) rfl ?_;exact ⟨rfl,rfl⟩
set_option maxHeartbeats 4000000 in
set_option maxRecDepth 100000 in
theorem depth_any (K:World→Prop) (N:Nat) (s0 s1 s2 s3:Value) (rd:RdQ) (hR:Reads K (.agg #[s0,s1,s2,s3]) rd) (hK:∀ w w',K w→Below N w w'→K w') (n:Nat) (anc:ByteArray→List ByteArray) (w:World) (hN:N≤w.heap.size) (hKw:K w) (a b:ByteArray) (ra rb:List ByteArray)
  (ha:foldQ (visitQ rd n) [] [a]=some (ra,0)) (hb:foldQ (visitQ rd n) [] [b]=some (rb,0)) (hla:ra.length≤8796093022207) (hlb:rb.length≤8796093022207) (haa:anc a=sortB ra) (hab:anc b=sortB rb)
  (h1:sortB ra=[a]) (h2:Lib.containsS (sortB rb) a=true) (hsz:a.size≤maxLen) :
  Calls Tryz.prog 10 #[.agg #[s0,s1,s2,s3],.string a,.string b] w fun e w'=>e=.returned (.tuple #[.int .i64 0,.int .i64 0])∧Below w.heap.size w w':=by
 have hB0:Below w.heap.size w (w.alloc (.cells #[s0,s1,s2,s3] 29)):=(Below.refl _ w).alloc (Nat.le_refl _) _;have HX:=Lib.hid (begin_any K N s0 s1 s2 s3 (.int .i64 0) (.int .i64 0) (.string ⟨#[]⟩) (.string ⟨#[]⟩) (.int .i64 0) rd hR hK n anc (w.alloc (.cells #[s0,s1,s2,s3] 29)) (by have:=hB0.size;omega) (hK _ _ hKw (hB0.mono hN)) a b (ra,0) (rb,0) ha hb hla hlb (fun _=>haa) (fun _=>hab));have HGA:RowKit.Hid (Good rd n anc a):=Lib.hid ⟨ra,ha,haa,hla⟩;have HGB:RowKit.Hid (Good rd n anc b):=Lib.hid ⟨rb,hb,hab,hlb⟩;have HBE:=Lib.hid (fun wx b0 M ids hNM hS g1 hc hbM=>best_one K N s0 s1 s2 s3 (.int .i64 0) (.int .i64 0) (.string ⟨#[]⟩) (.string ⟨#[]⟩) (.int .i64 0) rd hR hK n anc wx b0 M ids a b hNM hS HGA.out HGB.out (haa.trans h1) (by rw [hab];exact h2) (by rw [hab,sortB_length];omega) (by rw [hab];exact rises_sortB _) hsz g1 hc hbM);have HB0:=Lib.hid hB0;have HKK:=Lib.hid hK;clear hR hK ha hb hla hlb haa hab hB0 h1 h2 HGA HGB;go_enter Tryz.func10,Tryz.ntmps10;go_wp2_with fail;refine HX.out.mono ?_;rintro e w1 ⟨-,-,h3,hb1⟩;obtain ⟨p,M,ids,rfl,hM,hS⟩:=h3 rfl rfl;have HB1:=Lib.hid (HB0.out.trans (hb1.mono HB0.out.size));have hML:=hS.lt;have hMB:w.heap.size≤M:=by have:=HB0.out.size;omega
 clear h3 hb1 HX;have hpM:p≠M:=by
  rintro rfl;obtain ⟨es,c,hSM,_⟩:=hS.known;have h4:=hS.blk;rw [hSM.blk] at h4;cases h4
 have hb2:Below w1.heap.size w1 (w1.alloc (.cells #[.string a] 9)):=(Below.refl _ w1).alloc (Nat.le_refl _) _;have hc2:(w1.alloc (.cells #[.string a] 9)).cell? ⟨w1.heap.size,0,none⟩=some (.string a):=by rw [Lib.cell_of_heap (heap_alloc_new w1 _)];rfl
 have HBX:=Lib.hid (HBE.out (w1.alloc (.cells #[.string a] 9)) p M ids (by omega) (hS.below hb2 (HKK.out _ _ hS.K (hb2.mono (by omega)))) w1.heap.size hc2 hpM);have HB2:=Lib.hid (HB1.out.trans (hb2.mono HB1.out.size));have hz2:(w1.alloc (.cells #[.string a] 9)).heap.size=w1.heap.size+1:=Array.size_push _;clear hc2 hb2 HBE hS HB1;go_wp2_with fail;refine HBX.out.mono ?_;rintro e w3 ⟨A,c,rfl,hg3⟩;have HB3:=Lib.hid (HB2.out.trans (below_grown hg3 hMB (by omega)));have HD:=Lib.hid (depth_one ⟨p,0,none⟩ A c w3);clear hg3 HBX;go_wp2_with fail;refine HD.out.mono ?_;rintro e w4 ⟨rfl,rfl⟩;go_wp2;refine bodyPost_ret (results_tmp2 rfl _ _ _) rfl ?_;exact ⟨rfl,HB3.out⟩
end Go.Proofs.YtninnmdpnoebaaaGreatDoor.Hand
end
section
namespace Go.Proofs.YtninnmdpnoebaaaGreatDoor.Hand
open Go.RowKit Go.Proofs.YtninnmdpnoebaaaGreatDoorW.PrintWords Go.Proofs.YtninnmdpnoebaaaGreatDoorW.PrintLast Go.Proofs.YtninnmdpnoebaaaGreatDoorW.PrintMore
open Go.Proofs.YtninnmdpnoebaaaGreatDoor.PRa
set_option linter.unusedVariables false
set_option linter.unusedSimpArgs false
def exUps (s:ByteArray):List ByteArray:=if s=exTwo then [exA] else []
theorem ex_body:∀ x∈exI3,x.f1=3→Body x.f2 (exUps x.f2):=by
 have h1:Body exOne (exUps exOne):=by
  have e:exUps exOne=[]:=by decide +kernel
  rw [e];exact parse_of (by decide +kernel) 300 ex_read1
 have h2:Body exTwo (exUps exTwo):=by
  have e:exUps exTwo=[exA]:=by decide +kernel
  rw [e];exact parse_of (by decide +kernel) 300 ex_read2
 intro x hx h3;simp only [exI3,List.mem_cons,List.not_mem_nil,or_false] at hx;rcases hx with rfl | rfl | rfl
 ·exact h1
 ·exact absurd h3 (by decide)
 ·exact h2
theorem ex_walk1:foldQ (visitQ (readQ exI3 [] exUps) 4) [] [exA]=some ([exA],0):=by kernel_rfl
theorem ex_walk2:foldQ (visitQ (readQ exI3 [] exUps) 4) [] [exB]=some ([exB,exA],0):=by kernel_rfl
theorem ex_sort1:sortB [exA]=[exA]:=by
 unfold sortB;rw [show [exA].map bl=[bl exA] from rfl,List.mergeSort_singleton];decide +kernel
theorem ex_ne:¬ exB=exA:=by decide +kernel
theorem ex_q1:alreadyQ ([exB,exA],0) ([exA],0) exB exA=(1,0):=by
 have h:Lib.containsS [exB,exA] exA=true:=by decide +kernel
 unfold alreadyQ;rw [if_pos rfl,if_pos rfl,contains_sortB,if_pos h]
theorem ex_q2:alreadyQ ([exA],0) ([exB,exA],0) exA exB=(2,0):=by
 have h:Lib.containsS [exA] exB=false:=by decide +kernel
 have h2:Lib.containsS [exB,exA] exA=true:=by decide +kernel
 unfold alreadyQ;rw [if_pos rfl,if_pos rfl,contains_sortB,contains_sortB,if_neg (by rw [h];decide),if_pos h2]
section
variable (A:Option Addr) (c:Nat) (q:Int)
theorem ex_reads (N:Nat):Reads (KW N A exI3 none [] q) (.agg #[.slice A 3 c,.slice none 0 0,.slice none 0 0,.slice none 0 0]) (readQ exI3 [] exUps) :=
 reads_of N A c exI3 (.slice none 0 0) (.slice none 0 0) none 0 [] q exUps (by decide) (by decide) (fun _ h=>by cases h) rfl rfl ex_body
theorem ex_already1 (w:World) (hH:Held A exI3 none [] q w):Calls Tryz.prog 6 #[.agg #[.slice A 3 c,.slice none 0 0,.slice none 0 0,.slice none 0 0],.string exB,.string exA] w fun e w'=>e=.returned (.tuple #[.int .i64 1,.int .i64 0])∧Below w.heap.size w w':=by
 have h:=already_any (KW w.heap.size A exI3 none [] q) w.heap.size _ _ _ _ _ (ex_reads A c q _) (fun _ _ h hb=>h.step hb) 4 (fun x=>if x=exB then sortB [exB,exA] else sortB [exA]) w (Nat.le_refl _) (held_kw hH) exB exA ([exB,exA],0) ([exA],0) ex_walk2 ex_walk1 (by decide) (by decide) (fun _=>if_pos rfl) (fun _=>if_neg (fun h=>ex_ne h.symm));rw [ex_q1] at h;exact h
theorem ex_already2 (w:World) (hH:Held A exI3 none [] q w):Calls Tryz.prog 6 #[.agg #[.slice A 3 c,.slice none 0 0,.slice none 0 0,.slice none 0 0],.string exA,.string exB] w fun e w'=>e=.returned (.tuple #[.int .i64 2,.int .i64 0])∧Below w.heap.size w w':=by
 have h:=already_any (KW w.heap.size A exI3 none [] q) w.heap.size _ _ _ _ _ (ex_reads A c q _) (fun _ _ h hb=>h.step hb) 4 (fun x=>if x=exB then sortB [exB,exA] else sortB [exA]) w (Nat.le_refl _) (held_kw hH) exA exB ([exA],0) ([exB,exA],0) ex_walk1 ex_walk2 (by decide) (by decide) (fun _=>if_neg (fun h=>ex_ne h.symm)) (fun _=>if_pos rfl);rw [ex_q2] at h;exact h
theorem ex_depth (w:World) (hH:Held A exI3 none [] q w):Calls Tryz.prog 10 #[.agg #[.slice A 3 c,.slice none 0 0,.slice none 0 0,.slice none 0 0],.string exA,.string exB] w fun e w'=>e=.returned (.tuple #[.int .i64 0,.int .i64 0])∧Below w.heap.size w w' :=
 depth_any (KW w.heap.size A exI3 none [] q) w.heap.size _ _ _ _ _ (ex_reads A c q _) (fun _ _ h hb=>h.step hb) 4 (fun x=>if x=exB then sortB [exB,exA] else sortB [exA]) w (Nat.le_refl _) (held_kw hH) exA exB [exA] [exB,exA] ex_walk1 ex_walk2 (by decide) (by decide) (if_neg (fun h=>ex_ne h.symm)) (if_pos rfl) ex_sort1 (by rw [contains_sortB];decide +kernel) (by decide +kernel)
end
set_option maxHeartbeats 4000000 in
set_option maxRecDepth 100000 in
theorem lives_any (q:Int) (w:World) (hq:w.cell? ⟨0,0,none⟩=some (.int .i64 q)):Calls Tryz.prog 5 #[] w fun e w'=>e=.returned (.bool true)∧Below w.heap.size w w':=by
 have HQ:=Lib.hid hq;clear hq;go_enter Tryz.func5,Tryz.ntmps5;go_wp2_with fail;refine (row_any w).mono ?_;rintro e w1 ⟨A,c,rfl,hC,hc,hb1⟩;go_upto_region 2 with (fail);generalize hw2:w1.alloc (.cells #[.slice A 3 c,.slice none 0 0,.slice none 0 0,.slice none 0 0] 29)=w2;have hb2:Below w1.heap.size w1 w2:=by rw [← hw2];exact (Below.refl _ w1).alloc (Nat.le_refl _) _
 have HV2:=Lib.hid (show w2.heap[w1.heap.size]? = some (.cells #[.slice A 3 c,.slice none 0 0,.slice none 0 0,.slice none 0 0] 29 (0,0)) by rw [← hw2];exact heap_alloc_new _ _);have HB2:=Lib.hid (hb1.trans (hb2.mono hb1.size));have HH2:=Lib.hid (⟨Kd.C_below hC hb2,Kd.C_nil _ _,(HB2.out.cell (World.block_lt_of_cell? w _ HQ.out)).trans HQ.out⟩:Held A exI3 none [] q w2);clear hw2 hb2 hC hb1 HQ;generalize w1.heap.size=g at *;have e0:w2.cell? ⟨g,0,none⟩=some (.slice A 3 c):=by rw [blk_cell HV2.out 0];rfl
 have e1:w2.cell? ⟨g,1,none⟩=some (.slice none 0 0):=by rw [blk_cell HV2.out 1];rfl
 have e2:w2.cell? ⟨g,2,none⟩=some (.slice none 0 0):=by rw [blk_cell HV2.out 2];rfl
 have e3:w2.cell? ⟨g,3,none⟩=some (.slice none 0 0):=by rw [blk_cell HV2.out 3];rfl
 go_wp2_with fail;refine (ex_already1 A c q w2 HH2.out).mono ?_;rintro e w3 ⟨rfl,hb3⟩;have HV3:=Lib.hid ((hb3.block _ (lt_of_block HV2.out)).trans HV2.out);have HB3:=Lib.hid (HB2.out.trans (hb3.mono HB2.out.size));have HH3:=Lib.hid (HH2.out.below hb3);clear hb3 HV2 HB2 HH2 e0 e1 e2 e3;have e0:w3.cell? ⟨g,0,none⟩=some (.slice A 3 c):=by rw [blk_cell HV3.out 0];rfl
 have e1:w3.cell? ⟨g,1,none⟩=some (.slice none 0 0):=by rw [blk_cell HV3.out 1];rfl
 have e2:w3.cell? ⟨g,2,none⟩=some (.slice none 0 0):=by rw [blk_cell HV3.out 2];rfl
 have e3:w3.cell? ⟨g,3,none⟩=some (.slice none 0 0):=by rw [blk_cell HV3.out 3];rfl
 go_wp2_with fail;refine (ex_already2 A c q w3 HH3.out).mono ?_;rintro e w4 ⟨rfl,hb4⟩;have HV4:=Lib.hid ((hb4.block _ (lt_of_block HV3.out)).trans HV3.out);have HB4:=Lib.hid (HB3.out.trans (hb4.mono HB3.out.size));have HH4:=Lib.hid (HH3.out.below hb4);clear hb4 HV3 HB3 HH3 e0 e1 e2 e3;have e0:w4.cell? ⟨g,0,none⟩=some (.slice A 3 c):=by rw [blk_cell HV4.out 0];rfl
 have e1:w4.cell? ⟨g,1,none⟩=some (.slice none 0 0):=by rw [blk_cell HV4.out 1];rfl
 have e2:w4.cell? ⟨g,2,none⟩=some (.slice none 0 0):=by rw [blk_cell HV4.out 2];rfl
 have e3:w4.cell? ⟨g,3,none⟩=some (.slice none 0 0):=by rw [blk_cell HV4.out 3];rfl
 go_wp2_with fail;refine (ex_depth A c q w4 HH4.out).mono ?_;rintro e w5 ⟨rfl,hb5⟩;have HB5:=Lib.hid (HB4.out.trans (hb5.mono HB4.out.size));clear hb5 HV4 HB4 HH4 e0 e1 e2 e3;go_wp2;refine bodyPost_ret (results_tmp rfl _ _ _) rfl ?_;exact ⟨rfl,HB5.out⟩
end Go.Proofs.YtninnmdpnoebaaaGreatDoor.Hand
end
section
namespace Go.Proofs.YtninnmdpnoebaaaGreatDoor.Hand
open Go.ChangeShapes Go.WideShapes Go.ChangeAt Go.RowKit Go.Deep
open Go.ChangeMaps (open_string shut_string)
open Go.Proofs.YtninnmdpnoebaaaGreatDoor.PRa
open Go.Proofs.YtninnmdpnoebaaaGreatDoorW.PrintWords Go.Proofs.YtninnmdpnoebaaaGreatDoorW.PrintLast Go.Proofs.YtninnmdpnoebaaaGreatDoorW.PrintMore
set_option linter.unusedVariables false
theorem row_own:ownKnob Tryz.prog.godebug=none:=by kernel_rfl
theorem row_laidOut:laidOutB Tryz.prog=true:=by kernel_rfl
abbrev laidL:List (String × DataW Unit):=Rows.recurAlreadyRow.laid
noncomputable def doorW (os:Os):World:=World.doorLaid Tryz.prog 600 os
theorem door_met (os:Os) (args:Array Value):laidMetH Tryz.prog laidL ((doorW os).forCall (fun _ _=>0) ⟨#[],args,[]⟩).memory :=
 laidMetH_of_parts3 (fuel:=8) (laidMet_of_run' 8 (by kernel_rfl) (by kernel_rfl)) (by kernel_rfl) (by kernel_rfl)
theorem max_cell {W:World} (hsh:W.ShapedOpen Tryz.prog):∃ q:Int,W.cell? ⟨0,0,none⟩=some (.int .i64 q) :=
 cell_of_shapedOpen_int (zero:=#[.int .i64 0]) (t:=3) hsh (of_decide_eq_true (by kernel_rfl)) (by kernel_rfl) rfl (by kernel_rfl) (by kernel_rfl) Tryz.underlying3
theorem opens_item:OpensN Tryz.prog 75 k75 :=
 opensN_struct Tryz.underlying75
  (opensM_cons rfl (by kernel_rfl) (by decide) (opensN_string Tryz.underlying9)
   (opensM_cons rfl (by kernel_rfl) (by decide) (opensN_int Tryz.underlying3)
    (opensM_one rfl (by kernel_rfl) (opensN_string Tryz.underlying9))))
  (by kernel_rfl) k75 (fun x=>⟨x.1,x.2.1,x.2.2⟩) (fun w a cs h=>h)
theorem opens_ref:OpensN Tryz.prog 263 k263 :=
 opensN_struct Tryz.underlying263
  (opensM_cons rfl (by kernel_rfl) (by decide) (opensN_string Tryz.underlying9)
   (opensM_cons rfl (by kernel_rfl) (by decide) (opensN_string Tryz.underlying9)
    (opensM_one rfl (by kernel_rfl) (opensN_string Tryz.underlying9))))
  (by kernel_rfl) k263 (fun x=>⟨x.1,x.2.1,x.2.2⟩) (fun w a cs h=>h)
theorem opens_person:OpensN Tryz.prog 51 k51 :=
 opensN_struct Tryz.underlying51
  (opensM_cons rfl (by kernel_rfl) (by decide) (opensN_string Tryz.underlying9)
   (opensM_cons rfl (by kernel_rfl) (by decide) (opensN_string Tryz.underlying9)
    (opensM_cons rfl (by kernel_rfl) (by decide) (opensN_int Tryz.underlying3)
     (opensM_one rfl (by kernel_rfl) (opensN_int Tryz.underlying3)))))
  (by kernel_rfl) k51 (fun x=>⟨x.1,x.2.1,x.2.2.1,x.2.2.2⟩) (fun w a cs h=>h)
theorem opens_entry:OpensN Tryz.prog 270 k270 :=
 opensN_struct Tryz.underlying270
  (opensM_cons rfl (by kernel_rfl) (by decide) (opensN_string Tryz.underlying9)
   (opensM_cons rfl (by kernel_rfl) (by decide) (opensN_string Tryz.underlying9)
    (opensM_cons rfl (by kernel_rfl) (by decide) opens_person
     (opensM_one rfl (by kernel_rfl) (opensN_string Tryz.underlying9)))))
  (by kernel_rfl) k270 (fun x=>⟨x.1,x.2.1,x.2.2.1,x.2.2.2⟩) (fun w a cs h=>h)
theorem opens_log:OpensN Tryz.prog 266 k266 :=
 opensN_struct Tryz.underlying266
  (opensM_cons rfl (by kernel_rfl) (by decide) (opensN_string Tryz.underlying9)
   (opensM_one rfl (by kernel_rfl) (opensN_slice opens_entry (by kernel_rfl) Tryz.underlying264)))
  (by kernel_rfl) k266 (fun x=>⟨x.1,x.2⟩) (fun w a cs h=>h)
theorem opens_store:OpensN Tryz.prog 24 (Kd.slice 75 k75) :=
 opensN_struct Tryz.underlying24 (opensM_one rfl (by kernel_rfl) (opensN_slice opens_item (by kernel_rfl) Tryz.underlying22)) (by kernel_rfl) _ (fun x=>x) (fun w a cs h=>h)
theorem opens_view:OpensN Tryz.prog 29 (Kd.pair (Kd.slice 75 k75) (Kd.pair (Kd.slice 263 k263) (Kd.pair (Kd.slice 266 k266) (Kd.slice 9 Kd.string)))) :=
 opensN_struct Tryz.underlying29
  (opensM_cons rfl (by kernel_rfl) (by decide) opens_store
   (opensM_cons rfl (by kernel_rfl) (by decide) (opensN_slice opens_ref (by kernel_rfl) Tryz.underlying25)
    (opensM_cons rfl (by kernel_rfl) (by decide) (opensN_slice opens_log (by kernel_rfl) Tryz.underlying26)
     (opensM_one rfl (by kernel_rfl) (opensN_slice (opensN_string Tryz.underlying9) (by kernel_rfl) Tryz.underlying27)))))
  (by kernel_rfl) _ (fun x=>x) (fun w a cs h=>h)
theorem okWide_agg {P:Program} {W:World} {r:Reach} {base:Nat} {t:TypeId} {fs:Array Field} {cs:Array Value} (hs:P.underlying t=some (.struct fs)) (h:Value.okWide P W r base t (.agg cs)):Row.okWide P W r base t cs:=by
 unfold Value.okWide at h;rw [hs] at h;obtain ⟨cs',e,_,hr⟩:=h;injection e with e;rw [e];exact hr
theorem okWide_spot {P:Program} {W:World} {r:Reach} {base:Nat} {t e:TypeId} {ad:Addr} {n c:Nat} (ht:P.underlying t=some (.slice e)) (h:Cell.okWide P W r base t (.slice (some ad) n c)):ad.spot=none:=by
 unfold Cell.okWide at h;rw [ht] at h;simp only [Cell.ok] at h;rw [ht] at h;exact h.2.2.2.1
set_option maxRecDepth 100000 in
theorem cut_spot {W:World} {base:Nat} {x0 x1 x2:Value} {Ac:Option Addr} {n c:Nat} (h:Value.okWide Tryz.prog W .any base 29 (.agg #[x0,x1,x2,.slice Ac n c])):∀ ad,Ac=some ad→ad.spot=none:=by
 rintro ad rfl;obtain ⟨ts,hts,_,hr⟩:=okWide_agg Tryz.underlying29 h;have ht:Tryz.prog.cellTypes Tryz.prog.depth 29=some [22,25,26,27]:=by kernel_rfl
 obtain rfl:=Option.some.inj (ht.symm.trans hts);obtain ⟨u,hu,hc⟩:=hr 3 _ rfl;have hu:some 27=some u:=hu;injection hu with hu;rw [← hu] at hc;exact okWide_spot Tryz.underlying27 hc
set_option maxRecDepth 100000 in
theorem opened_view {H:Type} {enc:TypeId × Value→H} {W:World} {base:Nat} {v:Value} {d:DataW H} {p:List MemPlace} (hv:Value.okWide Tryz.prog W .any base 29 v) (h:DataW.Trod enc Tryz.prog W 0 (fun _=>true) true 29 v d p) :
  ∃ (A:Option Addr) (c:Nat) (l:List S75) (A1:Option Addr) (c1:Nat) (l1:List S263) (A2:Option Addr) (c2:Nat) (l2:List S266) (Ac:Option Addr) (cc:Nat) (cuts:List ByteArray),
   v=.agg #[.slice A l.length c,.slice A1 l1.length c1,.slice A2 l2.length c2,.slice Ac cuts.length cc] ∧
   (Kd.C k75 W A l.length l∧l.length≤c)∧(Kd.C k263 W A1 l1.length l1∧l1.length≤c1)∧(Kd.C k266 W A2 l2.length l2∧l2.length≤c2)∧(Kd.C Kd.string W Ac cuts.length cuts∧cuts.length≤cc)∧∀ ad,Ac=some ad→ad.spot=none:=by
 obtain ⟨⟨l,l1,l2,cuts⟩,cs,rfl,hK⟩:=openedN_struct opens_view Tryz.underlying29 hv h;obtain ⟨_,_,rfl,⟨A,c,rfl,g0,h0⟩,_,_,rfl,⟨A1,c1,rfl,g1,h1⟩,_,_,rfl,⟨A2,c2,rfl,g2,h2⟩,⟨Ac,cc,rfl,g3,h3⟩⟩:=hK;have e:([.slice A l.length c]++([.slice A1 l1.length c1]++([.slice A2 l2.length c2]++[.slice Ac cuts.length cc])):List Value).toArray=#[.slice A l.length c,.slice A1 l1.length c1,.slice A2 l2.length c2,.slice Ac cuts.length cc]:=by simp
 have hv':Value.okWide Tryz.prog W .any base 29 (.agg #[.slice A l.length c,.slice A1 l1.length c1,.slice A2 l2.length c2,.slice Ac cuts.length cc]):=by rw [← e];exact hv
 exact ⟨A,c,l,A1,c1,l1,A2,c2,l2,Ac,cc,cuts,congrArg Value.agg e,⟨h0,g0⟩,⟨h1,g1⟩,⟨h2,g2⟩,⟨h3,g3⟩,cut_spot hv'⟩
end Go.Proofs.YtninnmdpnoebaaaGreatDoor.Hand
end
