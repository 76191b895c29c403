/- The law RecurAlready gives true for every input, where the listed variables are as the program's text lays them; the arguments read afterwards as they read before. -/
import Derived.Test.YtninnmdpnoebaaaGreatDoorZRA6
import Derived.Test.YtninnmdpnoebaaaGreatDoorCards
import Derived.Test.YtninnmdpnoebaaaGreatDoorTie
import Derived.SevenTiedAt
namespace Go.Proofs.YtninnmdpnoebaaaGreatDoor.recurAlready
open Go.ChangeShapes Go.WideShapes Go.ChangeAt Go.RowKit
open Go.ChangeMaps (open_string shut_string)
open Go.Proofs.YtninnmdpnoebaaaGreatDoor.Hand Go.Proofs.YtninnmdpnoebaaaGreatDoor.PRa
open Go.Proofs.YtninnmdpnoebaaaGreatDoorW.PrintWords Go.Proofs.YtninnmdpnoebaaaGreatDoorW.PrintLast Go.Proofs.YtninnmdpnoebaaaGreatDoorW.PrintMore
set_option linter.unusedVariables false
theorem reads (os:Os) {H:Type} (enc:TypeId × Value→H):∃ places,DataW.whole enc Tryz.prog ((doorW os).forCall (fun _ _=>0) ⟨#[],#[.agg #[.slice none 0 0,.slice none 0 0,.slice none 0 0,.slice none 0 0],.string ByteArray.empty,.string ByteArray.empty],[]⟩).memory Tryz.f3.params.toList Rows.recurAlreadySpec.vars false #[.agg #[.slice none 0 0,.slice none 0 0,.slice none 0 0,.slice none 0 0],.string ByteArray.empty,.string ByteArray.empty].toList 8=some ([.agg [.agg [.nil],.nil,.nil,.nil],.lit (.string []),.lit (.string [])],[],places) :=
 ⟨[],by kernel_rfl⟩
set_option maxRecDepth 100000 in
theorem lifted (os:Os) (started:os.Started) (H:Type) (enc:TypeId × Value→H) (G:Stop.Interp) :
  ReturnsInHanded {} Tryz.checked os 3 .any ((OpenSpec.ofChange Rows.recurAlreadySpec).preRow enc Tryz.prog Tryz.f3 Rows.recurAlreadyRow.domain false Rows.recurAlreadyRow.laid) (((OpenSpec.ofChange Rows.recurAlreadySpec).at G).post enc Tryz.prog Tryz.f3 false true false false):=by
 obtain ⟨places,hx⟩:=reads os enc;refine returnsInHanded_of_row (C:=Tryz.checked) (s:=(OpenSpec.ofChange Rows.recurAlreadySpec)) row_own started (by kernel_rfl) Tryz.func3
  (witness_row_atRef (enc:=enc) (C:=Tryz.checked) false (doorW os) #[.agg #[.slice none 0 0,.slice none 0 0,.slice none 0 0,.slice none 0 0],.string ByteArray.empty,.string ByteArray.empty] rfl (by kernel_rfl) (by kernel_rfl) (by kernel_rfl)
   (OpenSpec.preRow_of_cond 8 hx (by kernel_rfl) (fun k hk=>by cases hk) (by kernel_rfl) (door_met os _))) ?_
 intro W base args ds gs before hval0 hW _ hcond hsz0 hL0 hsh _;obtain ⟨q,hq⟩:=max_cell hsh;have hval:∀ (j:Nat) t v,Tryz.f3.params[j]? = some t→args[j]? = some v→Value.okWide Tryz.prog W .any base t v:=hval0;have hW':=hW;obtain ⟨p,q',hA0,hV,rfl,hfz,hnd⟩:=hW;have hA:DataW.TrodAll enc Tryz.prog W 0 (fun _=>true) true Tryz.f3.params.toList args.toList ds p:=hA0;rw [Tryz.params3] at hA hval;obtain ⟨v0,vs0,d0,ds0,p0,q0,hargs,rfl,rfl,h0,r0⟩:=trodAll_cons hA;obtain ⟨v1,vs1,d1,ds1,p1,q1,rfl,rfl,rfl,h1,r1⟩:=trodAll_cons r0;obtain ⟨v2,vs2,d2,ds2,p2,q2,rfl,rfl,rfl,h2,r2⟩:=trodAll_cons r1;obtain ⟨rfl,rfl,rfl⟩:=trodAll_nil r2;obtain rfl:args=#[v0,v1,v2]:=by cases args;simp_all
 obtain ⟨rfl,rfl⟩:=trodVars_none hV;have k0:=h0;have lt0:∀ x∈p0,x.block < W.heap.size:=by obtain ⟨m,hm⟩:=k0;exact DataW.trod_lt m _ _ _ hm
 obtain ⟨A,c,l,A1,c1,l1,A2,c2,l2,Ac,cc,cuts,rfl,⟨hC0,g0⟩,⟨hC1,g1⟩,⟨hC2,g2⟩,⟨hC3,g3⟩,hs⟩:=opened_view (hval 0 29 v0 rfl rfl) h0;obtain ⟨a,rfl,rfl,rfl,y1⟩:=open_string Tryz.underlying9 (hval 1 9 v1 rfl rfl) h1;obtain ⟨b,rfl,rfl,rfl,y2⟩:=open_string Tryz.underlying9 (hval 2 9 v2 rfl rfl) h2;clear hA0 hval0 hsz0 hL0;refine (law_any A c l A1 c1 l1 A2 c2 l2 Ac cc cuts q a b W hC0 g0 hC1 g1 hC2 g2 hC3 g3 hs hq (fun wx hb=>lives_any q wx ((hb.cell (World.block_lt_of_cell? W _ hq)).trans hq))).mono fun e W' ⟨he,bel⟩=>?_;subst he;exact ⟨_,rfl,_,_,_,[],_,[],hW',trodAll_mk1 (shut_bool Tryz.underlying4 _),(trodAll_cons_mk (Below.trod row_laidOut (by kernel_rfl) (of_decide_eq_true (by kernel_rfl)) k0 bel lt0) (trodAll_cons_mk (shut_string Tryz.underlying9 y1) (trodAll_cons_mk (shut_string Tryz.underlying9 y2) trodAll_mk0))),rfl,bel.frame _,fun h=>by cases h⟩
theorem said:Rows.RecurAlreadySaid :=
 OpenClaim.holds_of_cond 3 Tryz.f3 rfl rfl rfl rfl rfl rfl rfl ⟨rfl,rfl,rfl,rfl,rfl⟩ rfl rfl rfl rfl rfl (by kernel_rfl) Tryz.func3 (by kernel_rfl)
  (of_decide_eq_true (by kernel_rfl)) (by unfold Func.isWrapper;first | (rw [if_pos (by decide +kernel)];kernel_rfl) | (rw [if_neg (by decide +kernel)];exact ⟨rfl,rfl⟩))
  (fun os started H enc _ G=>by rw [OpenClaim.pre_eq_preRow];exact lifted os started H enc G)
theorem card:Rows.RecurAlreadyCardSaid :=
 Claim7.holds_tied_plain_at .later [] _ _ _ _ said (fun _ h=>by cases h) (by kernel_rfl) (fun _ h=>by cases h) recurAlready_row_tie rfl ⟨rfl,rfl⟩ (by kernel_rfl) rfl
  (fun f fn hf hfn=>by
   obtain rfl:f=3:=Option.some.inj ((show Tryz.prog.funcNamed "graftage/graftagelaw24.RecurAlready"=some 3 by kernel_rfl).symm.trans hf) |>.symm;obtain rfl:fn=Tryz.f3:=(Option.some.inj (Tryz.func3.symm.trans hfn)).symm;refine ⟨by kernel_rfl,fun j t ht=>?_⟩;rw [Tryz.params3] at ht;have hm:t∈#[29,9,9]:=Array.mem_of_getElem? ht;have hm:t=29∨t=9:=by simpa using hm
   rcases hm with rfl | rfl
   ·exact (show Tryz.prog.wantsStandIn 29=false by kernel_rfl)
   ·exact (show Tryz.prog.wantsStandIn 9=false by kernel_rfl)) (by kernel_rfl)
end Go.Proofs.YtninnmdpnoebaaaGreatDoor.recurAlready
namespace Go.Proofs.YtninnmdpnoebaaaGreatDoor
theorem recurAlready_card:Rows.RecurAlreadyCardSaid:=recurAlready.card
end Go.Proofs.YtninnmdpnoebaaaGreatDoor
