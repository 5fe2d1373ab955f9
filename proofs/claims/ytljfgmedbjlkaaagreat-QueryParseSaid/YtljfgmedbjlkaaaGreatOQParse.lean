/-
 The program's function inklinglaw30.QueryParse answers true at every text, and it reads behind the call as ahead of it. No condition but those of the given row.
-/
import Derived.Test.YtljfgmedbjlkaaaGreatRQE
import Derived.Test.YtljfgmedbjlkaaaGreatRows
import Derived.ProofKit
import Derived.SizedLaws
namespace Go.Proofs.YtljfgmedbjlkaaaGreat
open Go.ChangeShapes Go.WideShapes Go.ChangeAt Go.RowKit Go.Eng Go.QP
theorem Tryz.own:ownKnob Tryz.prog.godebug=none:=by kernel_rfl
theorem Tryz.laidOut:laidOutB Tryz.prog=true:=by kernel_rfl
set_option maxRecDepth 100000 in
theorem queryParse_lifted (os:Os) (started:os.Started) (H:Type) (enc:TypeId × Value→H) :
  ReturnsInHanded {} Tryz.checked os 3 .any (Rows.queryParseSpec.pre6 enc Tryz.prog Tryz.f3 Rows.queryParseRow.domain false) (Rows.queryParseSpec.post enc Tryz.prog Tryz.f3 false true false false):=by
 refine returnsInHanded_of_change_sized (C:=Tryz.checked) Tryz.own started (by kernel_rfl) Tryz.func3
  (ChangeSpec.witness6 (enc:=enc) (C:=Tryz.checked) false ⟨#[],#[.string (ByteArray.mk #[])],[]⟩ 8 (by kernel_rfl) (by kernel_rfl) (by kernel_rfl) (by kernel_rfl)) ?_
 intro W base args ds gs before hval0 hW _ hsz0 _
 clear hsz0
 have hval:∀ (j:Nat) t v,Tryz.f3.params[j]?=some t→args[j]?=some v→Value.okWide Tryz.prog W .any base t v:=hval0
 have hW':=hW
 obtain ⟨p,q,hA0,hV,rfl,_,_⟩:=hW
 have hA:DataW.TrodAll enc Tryz.prog W 0 (fun _=>true) true Tryz.f3.params.toList args.toList ds p:=hA0
 rw [Tryz.params3] at hA hval
 obtain ⟨v0,d0,rfl,rfl,h0⟩:=trodAll_one hA
 obtain ⟨rfl,rfl⟩:=trodVars_none hV
 clear hA0 hval0
 simp only [List.append_nil] at hW'
 have hlt:∀ x ∈ p,x.block<W.heap.size:=fun x hx=>by simpa using hW'.lt x hx
 obtain ⟨t,rfl⟩:=okWide_string Tryz.underlying9 (hval 0 9 v0 rfl rfl)
 refine (law3 t W).mono fun e W' ⟨he,hb⟩=>?_
 subst he
 refine ⟨_,rfl,_,_,_,[],p,[],hW',?_,?_,rfl,hb.frame _,fun h=>by cases h⟩
 ·exact trodAll_mk1 (shut_bool Tryz.underlying4 _)
 ·exact trodAll_mk1 (Below.trod Tryz.laidOut (by kernel_rfl) (of_decide_eq_true (by kernel_rfl)) h0 hb fun x hx=>hlt x hx)
theorem facts1:Tryz.prog.inPlace 3=Rows.queryParseRow.inPlace:=by kernel_rfl
theorem facts2:Tryz.prog.unfollowed 3=Rows.queryParseRow.unfollowed:=by kernel_rfl
theorem facts3:Tryz.prog.recurses 3=Rows.queryParseRow.recurses:=by kernel_rfl
theorem facts4:Tryz.prog.varsNamed 3=Rows.queryParseRow.named:=by kernel_rfl
theorem facts:joinedFacts Tryz.prog 3 Tryz.f3 Rows.queryParseSpec Rows.queryParseRow=true:=by
 unfold joinedFacts
 rw [facts1,facts2,facts3,facts4]
 kernel_rfl
theorem queryParse_holds:Rows.QueryParseSaid:=
 OpenClaim.holds_of_wide (p:=Tryz.pinned) (s:=Rows.queryParseSpec) (c:=Rows.queryParseRow) 3 Tryz.f3 rfl rfl rfl rfl rfl rfl rfl ⟨rfl,rfl,rfl,rfl,rfl⟩ rfl rfl rfl rfl rfl (by kernel_rfl) Tryz.func3 facts
  (of_decide_eq_true (by kernel_rfl)) (by unfold Func.isWrapper;first | (rw [if_pos (by decide +kernel)];kernel_rfl) | (rw [if_neg (by decide +kernel)];exact ⟨rfl,rfl⟩))
  (fun os started H enc _=>queryParse_lifted os started H enc)
#print axioms queryParse_holds
end Go.Proofs.YtljfgmedbjlkaaaGreat
