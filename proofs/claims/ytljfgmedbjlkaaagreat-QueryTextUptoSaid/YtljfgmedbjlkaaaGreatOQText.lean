/-
 The program's function inklinglaw30.QueryText answers true at every program and any literals that are together of bulk at most 1048576, and they read behind the call as ahead of it. No condition but those of the given row.
-/
import Derived.Test.YtljfgmedbjlkaaaGreatPDF
import Derived.Test.YtljfgmedbjlkaaaGreatQO
import Derived.SizedLaws
namespace Go.Proofs.YtljfgmedbjlkaaaGreat
open Go.ChangeShapes Go.WideShapes Go.ChangeAt Go.RowKit Go.Eng Go.QP
theorem Tryz.own:ownKnob Tryz.prog.godebug=none:=by kernel_rfl
theorem Tryz.laidOut:laidOutB Tryz.prog=true:=by kernel_rfl
theorem yV {L:List Rw} (h1:L.length<=1048576) (h2:∀ i,i<L.length->lZ (el L i).1):RuB (oH (L.map (·.1))):=by
 refine ⟨(by decide:(ByteArray.mk #[113]).size<=1048576),Nat.zero_le _,λt ht=>(by cases ht),by show (L.map (·.1)).length<=_;rw [List.length_map];exact h1,λl hl=>?_⟩;obtain ⟨z,hz,rfl⟩:=List.mem_map.1 hl;obtain ⟨j,hj,rfl⟩:=aU hz;exact h2 j hj
set_option maxRecDepth 100000 in
theorem oM (os:Os) (started:os.Started) (H:Type) (enc:TypeId × Value->H) (F:Stop.Interp) :
  ReturnsInHanded {} Tryz.checked os 4 .any ((Rows.OpenSpec.upto Rows.queryTextSpec).pre6 enc Tryz.prog Tryz.f4 Rows.queryTextUptoRow.domain false) (((Rows.OpenSpec.upto Rows.queryTextSpec).at F).post enc Tryz.prog Tryz.f4 false true false false):=by
 refine returnsInHanded_of_cond (C:=Tryz.checked) (s:=Rows.OpenSpec.upto Rows.queryTextSpec) (k:=Rows.uptoSmall) rfl Tryz.own started (by kernel_rfl) Tryz.func4
  (OpenSpec.witness (enc:=enc) (C:=Tryz.checked) (s:=Rows.OpenSpec.upto Rows.queryTextSpec) (k:=Rows.uptoSmall) rfl false ⟨#[],#[.agg #[.slice none 0 0,.slice none 0 0,.slice none 0 0],.slice none 0 0],[]⟩ 8 (by kernel_rfl) (by kernel_rfl) (by kernel_rfl)
   (x:=([.agg [.nil,.nil,.nil],.nil],[],[])) (by kernel_rfl) rfl (by kernel_rfl)) ?_
 intro W base args ds gs before hval0 hW _ hk _;have hval:∀ (j:Nat) t v,Tryz.f4.params[j]?=some t->args[j]?=some v->Value.okWide Tryz.prog W .any base t v:=hval0;have hW':=hW;obtain ⟨p,q,hA0,hV,rfl,_,_⟩:=hW;have hA:DataW.TrodAll enc Tryz.prog W 0 (λ_=>true) true Tryz.f4.params.toList args.toList ds p:=hA0;rw [Tryz.params4] at hA hval;obtain ⟨v0,v1,d0,d1,p0,p1,rfl,rfl,rfl,h0,h1⟩:=trodAll_two hA;obtain ⟨rfl,rfl⟩:=trodVars_none hV;clear hA0 hval0;simp only [List.append_nil] at hW' hk;have hb0:Rows.uptoBulkAll [d0,d1]<=1048576:=of_decide_eq_true hk;simp only [Rows.uptoBulkAll] at hb0;have hlt:∀ x ∈ p0++p1,x.block<W.heap.size:=λx hx=>by simpa using hW'.lt x (by simpa using hx)
 obtain ⟨a1,l1,c1,rfl⟩:=okWide_slice Tryz.underlying23 (hval 1 23 v1 rfl rfl);obtain ⟨fuel,hf⟩:=h1;have hcl:(Value.slice a1 l1 c1).cells.toList=[.slice a1 l1 c1]:=rfl;rw [hcl] at hf;obtain ⟨a,c,L,e1,hl1,hl2,hl3⟩:=Fp hf (by dsimp only;omega);dsimp only at hl1;rw [e1];rw [e1] at hW' hf;obtain ⟨cs0,rfl,_⟩:=okWide_struct Tryz.underlying43 (hval 0 43 v0 rfl rfl);obtain ⟨fuel0,hf0⟩:=h0;have hcs:(Value.agg cs0).cells.toList=cs0.toList:=by simp [Value.cells]
 rw [hcs] at hf0;obtain ⟨g,hg1,hg2,hg3⟩:=E7 hf0;have hg4:cs0=g.cells.toArray:=by rw [← hg1]
 subst hg4;rw [← hcs] at hf0;refine (R9 g L a c W ⟨hg3,hg2 (by dsimp only;omega)⟩ hl3 (yV (by omega) hl2)).mono λe W' ⟨he,hb⟩=>?_;subst he;refine ⟨_,rfl,_,_,_,[],p0++p1,[],hW',?_,?_,rfl,?_,λh=>by cases h⟩
 .exact trodAll_mk1 (shut_bool Tryz.underlying4 _)
 .exact trodAll_mk2 (Below.trod Tryz.laidOut (by kernel_rfl) (of_decide_eq_true (by kernel_rfl)) ⟨fuel0,hf0⟩ hb λx hx=>hlt x (by simp [hx])) (Below.trod Tryz.laidOut (by kernel_rfl) (of_decide_eq_true (by kernel_rfl)) ⟨fuel,hf⟩ hb λx hx=>hlt x (by simp [hx]))
 .exact hb.frame _
theorem O0:Tryz.prog.inPlace 4=Rows.queryTextUptoRow.inPlace:=by kernel_rfl
theorem PG:Tryz.prog.unfollowed 4=Rows.queryTextUptoRow.unfollowed:=by kernel_rfl
theorem PE:Tryz.prog.recurses 4=Rows.queryTextUptoRow.recurses:=by kernel_rfl
theorem OQ:Tryz.prog.varsNamed 4=Rows.queryTextUptoRow.named:=by kernel_rfl
theorem Qs:joinedFacts Tryz.prog 4 Tryz.f4 (Rows.OpenSpec.upto Rows.queryTextSpec).bare Rows.queryTextUptoRow=true:=by
 unfold joinedFacts;rw [O0,PG,PE,OQ]
 kernel_rfl
theorem queryText_holds:Rows.QueryTextUptoSaid:=
 OpenClaim.holds_of_cond 4 Tryz.f4 rfl rfl rfl rfl rfl rfl rfl ⟨rfl,rfl,rfl,rfl,rfl⟩ rfl rfl rfl rfl rfl (by kernel_rfl) Tryz.func4 Qs
  (of_decide_eq_true (by kernel_rfl)) (by unfold Func.isWrapper;first | (rw [if_pos (by decide +kernel)];kernel_rfl) | (rw [if_neg (by decide +kernel)];exact ⟨rfl,rfl⟩))
  (λos started H enc _ F=>oM os started H enc F)
#print axioms queryText_holds
end Go.Proofs.YtljfgmedbjlkaaaGreat
