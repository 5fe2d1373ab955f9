/- A part of the engine: steps over the model. Over any program. -/
import Derived.Test.YtljfgmedbjlkaaaGreatTQ
import Derived.Test.YtljfgmedbjlkaaaGreatPDH
import Derived.Test.YtljfgmedbjlkaaaGreatVA
import Derived.Test.YtljfgmedbjlkaaaGreatVC
import Derived.Test.YtljfgmedbjlkaaaGreatProg
import Derived.Test.YtljfgmedbjlkaaaGreatPDA
namespace Go.Proofs.YtljfgmedbjlkaaaGreat
open Go.RowKit Go.Eng Go.QP
theorem T.cf135:CF Tryz.prog 135:=λ_ _=>by kernel_rfl
theorem T.cf78:CF Tryz.prog 78:=λ_ _=>by kernel_rfl
theorem T.cf77:CF Tryz.prog 77:=λ_ _=>by kernel_rfl
theorem T.cf38:CF Tryz.prog 38:=λ_ _=>by kernel_rfl
theorem OI {z:Rx} (hb:RuB z.r):(fZ z.r).length<=1100000000000:=by
 have:=K0 hb (j:=z.rows.length) (Nat.le_refl _);rw [Hy];omega
theorem Ki (z:Rx) (w0:World) (hz:RuM w0.heap z) (hb:RuB z.r) :
  Calls Tryz.prog 78 #[.agg (eRu.enc z).toArray] w0 λe w'=>∃ a c,e= .returned (.slice a (fZ z.r).length c)/\Hp No w0 w' [cQ 220 Ij a (fZ z.r).length c (fZ z.r)]:=by
 have hcap:=hz.1.cap;have hcap2:=hz.2.1.cap;have hrb:=hb;have hhl:z.ha.length<=1048576:=hb.2.1;have hbl:z.rows.length<=1048576:=by rw [← show z.r.body.length=z.rows.length from List.length_map _];exact hb.2.2.2.1
 refine enter Tryz.func78 rfl 69 Tryz.ntmps78 rfl<|sj λ_ na=>st_e<|Ebx (v:=.agg (eRu.enc z).toArray) (Hp.start No w0) rfl λA _ oa _=>qt asg<|nl<|na<|sZ rfl<|seqJ λ_ pa _ _=>sZ rfl<|blockJ λ_ _ _ _ qa=>ay (α:=Nat × (List Oc) × (Option Addr) × Nat × Nat) (λx=>[(1,.pointer (some ⟨A,0,none⟩)),(3,.slice x.2.2.1 x.2.2.2.2 x.2.2.2.1),(4,vN x.1)]) (λx ra=>Hp No w0 ra [cB A 60 (eRu.enc z),cQ 220 Ij x.2.2.1 x.2.2.2.2 x.2.2.2.1 x.2.1]/\x.1<=z.ha.length/\x.2.2.2.2=x.2.1.length/\x.2.1=dM (-1) (z.ha.take x.1)) (λx=>z.ha.length-x.1) (0,[],none,0,0) ⟨rfl,rfl,rfl,trivial⟩ ?_ ?_
 .refine ⟨((oa.nilQ 220 Ij).pick [1,0] (by decide)),?_⟩;(try dsimp only);exact ⟨Nat.zero_le _,rfl,rfl⟩
 .rintro eb ⟨i,os,aq,cq,m⟩ fb ⟨B,⟨hi,hm,hos⟩⟩;(try dsimp only at hi hm hos);intro gb V ib sa;dsimp only at B ⊢;have hol:=nK (-1) z.ha i;rw [← hos] at hol;refine seqJ λ_ ua _ va=>sL (.b B 0 1 rfl .z) rfl rfl<|cnd (p:=i<z.ha.length) rfl (λwa=>?_) (λwa=>?_)
  .refine skip<|ua<|seqJ λ_ W _ _=>blockJ λ_ Y _ _ _=>sL (.b B 0 1 rfl (.f (hz.1.e B) 0 (i:=i) (by omega) rfl .z)) rfl rfl<|cnd (p:=(el z.ha i).1=true) rfl (λI=>?_) (λI=>?_)
   .refine region<|qR 8 (.b B 0 1 rfl (.f (hz.1.e B) 1 (i:=i) (by omega) rfl .z)) rfl rfl<|qt (v:=.agg #[.int .i64 (-1),.string ((el z.ha i).2)]) (aw (λ_=>by kernel_rfl))<|st_e<|Ebs (cs:=[.int .i64 (-1),.string ((el z.ha i).2)]) (e:=220) B (λ_=>by kernel_rfl) λ_ _ Z _=>st_e<|EapQ Z 2 T.sl148 rfl rfl rfl (Z.lst (E:=Ij) 0 rfl ((-1),(el z.ha i).2) rfl) (by omega) rfl rfl λa44 xa _ ya=>qt asg<|nl<|Y<|W<|rL (.a1 (by omega) .z) rfl rfl<|V _ ((i+1),(os++[((-1),(el z.ha i).2)]),a44,xa,(m+1)) _ ⟨rfl,rfl,rfl,trivial⟩ ⟨(ya.pick [1,2] (by decide)),?_⟩ ?_
    ·(try dsimp only);exact ⟨by omega,by first | exact hm | (rw [List.length_append,hm];rfl),by first | (rw [oV ‹_› I,← hos]) | (rw [oP ‹_› I,← hos])⟩
    ·(try dsimp only);omega
   .refine skip<|Y<|W<|rL (.a1 (by omega) .z) rfl rfl<|V _ ((i+1),os,aq,cq,m) _ ⟨rfl,rfl,rfl,trivial⟩ ⟨(B.pick [0,1] (by decide)),?_⟩ ?_
    ·(try dsimp only);exact ⟨by omega,by first | exact hm | (rw [List.length_append,hm];rfl),by first | (rw [oV ‹_› I,← hos]) | (rw [oP ‹_› I,← hos])⟩
    ·(try dsimp only);omega
  .refine exit<|va<|sa _ _ _<|qa<|pa<|seqJ λ_ za _ _=>sZ rfl<|blockJ λ_ _ _ _ Aa=>ay (α:=Nat × (List Oc) × (Option Addr) × Nat × Nat) (λx=>[(1,.pointer (some ⟨A,0,none⟩)),(3,.slice x.2.2.1 x.2.2.2.2 x.2.2.2.1),(5,vN x.1)]) (λx Ba=>Hp No w0 Ba [cB A 60 (eRu.enc z),cQ 220 Ij x.2.2.1 x.2.2.2.2 x.2.2.2.1 x.2.1]/\x.1<=z.rows.length/\x.2.2.2.2=x.2.1.length/\x.2.1=occP z.r (x.1+1)) (λx=>z.rows.length-x.1) (0,os,aq,cq,m) ⟨rfl,rfl,rfl,trivial⟩ ?_ ?_
   .refine ⟨(B.pick [0,1] (by decide)),?_⟩;(try dsimp only);exact ⟨Nat.zero_le _,hm,by rw [hos,Jz,show i=z.ha.length by omega]⟩
   .rintro jb ⟨j,os,aq,cq,m⟩ kb ⟨C,⟨hj,hm,hos⟩⟩;(try dsimp only at hj hm hos);intro lb M mb Ca;dsimp only at C ⊢;refine seqJ λ_ Da _ Ea=>sL (.b C 0 2 rfl .z) rfl rfl<|cnd (p:=j<z.rows.length) rfl (λFa=>?_) (λFa=>?_)
    .refine skip<|Da<|seqJ λ_ N _ _=>blockJ λ_ O _ _ _=>sj λ_ R=>qR 5 (.b C 0 2 rfl (.e (hz.2.1.e C) (i:=j) (by omega) .z)) rfl rfl<|cl T.cf135 (Hz (el z.rows j) _) rfl λ_ _ hc83=>?_
     rcases hc83 with ⟨J,rfl,X⟩ | ⟨J,U,ta,rfl,X⟩ | ⟨J,U,rfl,X⟩
     .refine ⟨_,rfl,?_⟩;have Ga:=C.ext X;have hts:bT (el z.rows j).1=(el z.rows j).1.args:=jg J;refine qt asg<|nl<|R<|sZ rfl<|blockJ λ_ _ _ _ Ha=>ay (α:=Nat × (List Oc) × (Option Addr) × Nat × Nat) (λx=>[(1,.pointer (some ⟨A,0,none⟩)),(3,.slice x.2.2.1 x.2.2.2.2 x.2.2.2.1),(5,vN j),(6,.slice ((el z.rows j).2.1) ((el z.rows j).1.args.length) ((el z.rows j).2.2)),(7,vN x.1)]) (λx Ia=>Hp No w0 Ia [cB A 60 (eRu.enc z),cQ 220 Ij x.2.2.1 x.2.2.2.2 x.2.2.2.1 x.2.1]/\x.1<=(el z.rows j).1.args.length/\x.2.2.2.2=x.2.1.length/\x.2.1=occP z.r (j+1)++dM (j:Int) ((el z.rows j).1.args.take x.1)) (λx=>(el z.rows j).1.args.length-x.1) (0,os,aq,cq,m) ⟨rfl,rfl,rfl,rfl,rfl,trivial⟩ ?_ ?_
      .refine ⟨(Ga.pick [0,1] (by decide)),?_⟩;(try dsimp only);exact ⟨Nat.zero_le _,hm,by rw [List.take_zero,hos];exact (List.append_nil _).symm⟩
      .rintro nb ⟨k,os,aq,cq,m⟩ ob ⟨G,⟨hk,hm,hos⟩⟩;(try dsimp only at hk hm hos);intro pb aa qb Ja;dsimp only at G ⊢;have ba:((el z.rows j).1.args).length<=1048578:=by have D:=Dq hrb (j:=j) ‹_›;rw [hts] at D;exact D
       have hol:os.length<=1099514773506+1048578:=by have ca:=K0 hrb (j:=j) (by omega);have da:=nK (j:Int) ((el z.rows j).1.args) k;rw [hos,List.length_append];omega
       have hlen:((el z.rows j).1.args).length=(el z.rows j).1.args.length:=rfl;refine seqJ λ_ Ka _ La=>sZ rfl<|cnd (p:=k<((el z.rows j).1.args.length)) rfl (λMa=>?_) (λMa=>?_)
       .refine skip<|Ka<|seqJ λ_ ea _ _=>blockJ λ_ fa _ _ _=>sL (.f ((hz.2.2 j ‹_›).e G) 0 (i:=k) (by omega) rfl .z) rfl rfl<|cnd (p:=(el ((el z.rows j).1.args) k).1=true) rfl (λK=>?_) (λK=>?_)
        .refine region<|qR 7 (.f ((hz.2.2 j ‹_›).e G) 1 (i:=k) (by omega) rfl .z) rfl rfl<|qt (v:=.agg #[vN j,.string ((el ((el z.rows j).1.args) k).2)]) (aw (λ_=>by kernel_rfl))<|st_e<|Ebs (cs:=[vN j,.string ((el ((el z.rows j).1.args) k).2)]) (e:=220) G (λ_=>by kernel_rfl) λ_ _ ga _=>st_e<|EapQ ga 2 T.sl148 rfl rfl rfl (ga.lst (E:=Ij) 0 rfl (((j:Nat):Int),(el ((el z.rows j).1.args) k).2) rfl) (by omega) rfl rfl λa118 Na _ Oa=>qt asg<|nl<|fa<|ea<|rL (.a1 (by omega) .z) rfl rfl<|aa _ ((k+1),(os++[(((j:Nat):Int),(el ((el z.rows j).1.args) k).2)]),a118,Na,(m+1)) _ ⟨rfl,rfl,rfl,rfl,rfl,trivial⟩ ⟨(Oa.pick [1,2] (by decide)),?_⟩ ?_
         ·(try dsimp only);have Bq:k<((el z.rows j).1.args).length:=by rw [hlen];omega
          exact ⟨by omega,by first | exact hm | (rw [List.length_append,hm];rfl),by first | (rw [oV Bq K,← List.append_assoc,← hos]) | (rw [oP Bq K,← hos])⟩
         ·(try dsimp only);omega
        .refine skip<|fa<|ea<|rL (.a1 (by omega) .z) rfl rfl<|aa _ ((k+1),os,aq,cq,m) _ ⟨rfl,rfl,rfl,rfl,rfl,trivial⟩ ⟨(G.pick [0,1] (by decide)),?_⟩ ?_
         ·(try dsimp only);have Bq:k<((el z.rows j).1.args).length:=by rw [hlen];omega
          exact ⟨by omega,by first | exact hm | (rw [List.length_append,hm];rfl),by first | (rw [oV Bq K,← List.append_assoc,← hos]) | (rw [oP Bq K,← hos])⟩
         ·(try dsimp only);omega
       .refine exit<|La<|Ja _ _ _<|Ha<|O<|N<|rL (.a1 (by omega) .z) rfl rfl<|M _ ((j+1),os,aq,cq,m) _ ⟨rfl,rfl,rfl,trivial⟩ ⟨(G.pick [0,1] (by decide)),?_⟩ ?_
        ·(try dsimp only);have e:k=((el z.rows j).1.args).length:=(show k=(el z.rows j).1.args.length by omega);exact ⟨by omega,hm,by rw [wD ‹_›,hts,hos,← e]⟩
        ·(try dsimp only);omega
     .refine ⟨_,rfl,?_⟩;have Pa:=C.app' X;have hts:bT (el z.rows j).1=[(el z.rows j).1.left,(el z.rows j).1.right]:=wG J U;refine qt asg<|nl<|R<|sZ rfl<|blockJ λ_ _ _ _ Qa=>ay (α:=Nat × (List Oc) × (Option Addr) × Nat × Nat) (λx=>[(1,.pointer (some ⟨A,0,none⟩)),(3,.slice x.2.2.1 x.2.2.2.2 x.2.2.2.1),(5,vN j),(6,.slice ta 2 2),(7,vN x.1)]) (λx Ra=>Hp No w0 Ra [cB A 60 (eRu.enc z),cQ 220 Ij x.2.2.1 x.2.2.2.2 x.2.2.2.1 x.2.1,cQ 35 eT ta 2 2 ([(el z.rows j).1.left,(el z.rows j).1.right])]/\x.1<=2/\x.2.2.2.2=x.2.1.length/\x.2.1=occP z.r (j+1)++dM (j:Int) ([(el z.rows j).1.left,(el z.rows j).1.right].take x.1)) (λx=>2-x.1) (0,os,aq,cq,m) ⟨rfl,rfl,rfl,rfl,rfl,trivial⟩ ?_ ?_
      .refine ⟨(Pa.pick [1,2,0] (by decide)),?_⟩;(try dsimp only);exact ⟨Nat.zero_le _,hm,by rw [List.take_zero,hos];exact (List.append_nil _).symm⟩
      .rintro rb ⟨k,os,aq,cq,m⟩ sb ⟨H,⟨hk,hm,hos⟩⟩;(try dsimp only at hk hm hos);intro tb ia ub Sa;dsimp only at H ⊢;have ba:([(el z.rows j).1.left,(el z.rows j).1.right]).length<=1048578:=by have D:=Dq hrb (j:=j) ‹_›;rw [hts] at D;exact D
       have hol:os.length<=1099514773506+1048578:=by have ca:=K0 hrb (j:=j) (by omega);have da:=nK (j:Int) ([(el z.rows j).1.left,(el z.rows j).1.right]) k;rw [hos,List.length_append];omega
       have hlen:([(el z.rows j).1.left,(el z.rows j).1.right]).length=2:=rfl;refine seqJ λ_ Ta _ Ua=>sZ rfl<|cnd (p:=k<2) rfl (λVa=>?_) (λVa=>?_)
       .refine skip<|Ta<|seqJ λ_ ja _ _=>blockJ λ_ ka _ _ _=>sL (.f (H.srQ 2 rfl) 0 (i:=k) (by omega) rfl .z) rfl rfl<|cnd (p:=(el ([(el z.rows j).1.left,(el z.rows j).1.right]) k).1=true) rfl (λL=>?_) (λL=>?_)
        .refine region<|qR 7 (.f (H.srQ 2 rfl) 1 (i:=k) (by omega) rfl .z) rfl rfl<|qt (v:=.agg #[vN j,.string ((el ([(el z.rows j).1.left,(el z.rows j).1.right]) k).2)]) (aw (λ_=>by kernel_rfl))<|st_e<|Ebs (cs:=[vN j,.string ((el ([(el z.rows j).1.left,(el z.rows j).1.right]) k).2)]) (e:=220) H (λ_=>by kernel_rfl) λ_ _ la _=>st_e<|EapQ la 2 T.sl148 rfl rfl rfl (la.lst (E:=Ij) 0 rfl (((j:Nat):Int),(el ([(el z.rows j).1.left,(el z.rows j).1.right]) k).2) rfl) (by omega) rfl rfl λa156 Wa _ Xa=>qt asg<|nl<|ka<|ja<|rL (.a1 (by omega) .z) rfl rfl<|ia _ ((k+1),(os++[(((j:Nat):Int),(el ([(el z.rows j).1.left,(el z.rows j).1.right]) k).2)]),a156,Wa,(m+1)) _ ⟨rfl,rfl,rfl,rfl,rfl,trivial⟩ ⟨(Xa.pick [1,2,3] (by decide)),?_⟩ ?_
         ·(try dsimp only);have Bq:k<([(el z.rows j).1.left,(el z.rows j).1.right]).length:=by rw [hlen];omega
          exact ⟨by omega,by first | exact hm | (rw [List.length_append,hm];rfl),by first | (rw [oV Bq L,← List.append_assoc,← hos]) | (rw [oP Bq L,← hos])⟩
         ·(try dsimp only);omega
        .refine skip<|ka<|ja<|rL (.a1 (by omega) .z) rfl rfl<|ia _ ((k+1),os,aq,cq,m) _ ⟨rfl,rfl,rfl,rfl,rfl,trivial⟩ ⟨(H.pick [0,1,2] (by decide)),?_⟩ ?_
         ·(try dsimp only);have Bq:k<([(el z.rows j).1.left,(el z.rows j).1.right]).length:=by rw [hlen];omega
          exact ⟨by omega,by first | exact hm | (rw [List.length_append,hm];rfl),by first | (rw [oV Bq L,← List.append_assoc,← hos]) | (rw [oP Bq L,← hos])⟩
         ·(try dsimp only);omega
       .refine exit<|Ua<|Sa _ _ _<|Qa<|O<|N<|rL (.a1 (by omega) .z) rfl rfl<|M _ ((j+1),os,aq,cq,m) _ ⟨rfl,rfl,rfl,trivial⟩ ⟨(H.pick [0,1] (by decide)),?_⟩ ?_
        ·(try dsimp only);have e:k=([(el z.rows j).1.left,(el z.rows j).1.right]).length:=(show k=2 by omega);exact ⟨by omega,hm,by rw [wD ‹_›,hts,hos,← e]⟩
        ·(try dsimp only);omega
     .refine ⟨_,rfl,?_⟩;have Ya:=C.ext X;have hts:bT (el z.rows j).1=([]:List Tm):=mM J U;refine qt asg<|nl<|R<|sZ rfl<|blockJ λ_ _ _ _ Za=>ay (α:=Nat × (List Oc) × (Option Addr) × Nat × Nat) (λx=>[(1,.pointer (some ⟨A,0,none⟩)),(3,.slice x.2.2.1 x.2.2.2.2 x.2.2.2.1),(5,vN j),(6,.slice none 0 0),(7,vN x.1)]) (λx bb=>Hp No w0 bb [cB A 60 (eRu.enc z),cQ 220 Ij x.2.2.1 x.2.2.2.2 x.2.2.2.1 x.2.1]/\x.1<=0/\x.2.2.2.2=x.2.1.length/\x.2.1=occP z.r (j+1)++dM (j:Int) (([]:List Tm).take x.1)) (λx=>0-x.1) (0,os,aq,cq,m) ⟨rfl,rfl,rfl,rfl,rfl,trivial⟩ ?_ ?_
      .refine ⟨(Ya.pick [0,1] (by decide)),?_⟩;(try dsimp only);exact ⟨Nat.zero_le _,hm,by rw [List.take_zero,hos];exact (List.append_nil _).symm⟩
      .rintro vb ⟨k,os,aq,cq,m⟩ wb ⟨ma,⟨hk,hm,hos⟩⟩;(try dsimp only at hk hm hos);intro xb yb zb cb;dsimp only at ma ⊢;have ba:(([]:List Tm)).length<=1048578:=by have D:=Dq hrb (j:=j) ‹_›;rw [hts] at D;exact D
       have hol:os.length<=1099514773506+1048578:=by have ca:=K0 hrb (j:=j) (by omega);have da:=nK (j:Int) (([]:List Tm)) k;rw [hos,List.length_append];omega
       have hlen:(([]:List Tm)).length=0:=rfl;refine seqJ λ_ _ _ db=>sZ rfl<|cndN (p:=k<0) rfl (Nat.not_lt_zero _)<|exit<|db<|cb _ _ _<|Za<|O<|N<|rL (.a1 (by omega) .z) rfl rfl<|M _ ((j+1),os,aq,cq,m) _ ⟨rfl,rfl,rfl,trivial⟩ ⟨(ma.pick [0,1] (by decide)),?_⟩ ?_
       ·(try dsimp only);have e:k=(([]:List Tm)).length:=(show k=0 by omega);exact ⟨by omega,hm,by rw [wD ‹_›,hts,hos,← e]⟩
       ·(try dsimp only);omega
    .refine exit<|Ea<|Ca _ _ _<|Aa<|za<|sZ rfl<|ret<|leave1 (v:=.slice aq m cq) rfl rfl<|?_;have e:os=fZ z.r:=by rw [hos,Hy,show j=z.rows.length by omega]
     subst hm;subst e;exact ⟨_,_,rfl,(C.pick [1] (by decide))⟩
theorem Kl (z:Rx) (w0:World) (hz:RuM w0.heap z) (hb:RuB z.r) :
  Calls Tryz.prog 38 #[.agg (eRu.enc z).toArray] w0 λe w'=>∃ a c,e= .returned (.slice a (bX z.r).length c)/\Hp No w0 w' [cQ 9 eS a (bX z.r).length c (bX z.r)]:=by
 refine enter Tryz.func38 rfl 6 Tryz.ntmps38 rfl<|sj λ_ C=>st_e<|Ebx (v:=.agg (eRu.enc z).toArray) (Hp.start No w0) rfl λ_ _ A _=>qt asg<|nl<|C<|sj λ_ D=>qR 1 (.d A 0 0 3 rfl .z) rfl rfl<|cl T.cf78 (Ki z _ (hz.ext A.x) hb) rfl λ_ _ ⟨a9,E,er,G⟩=>⟨_,er,?_⟩;have B:=A.app' G;refine cl T.cf77 (LP (fZ z.r) a9 E _ (B.srQ 0 rfl) (OI hb)) rfl λ_ _ ⟨a14,H,er,I⟩=>⟨_,er,?_⟩;have J:=B.app' I;exact qt asg<|nl<|D<|ret<|leave1 (v:=.slice a14 ((bX z.r).length) H) rfl rfl<|⟨_,_,rfl,(J.pick [0] (by decide))⟩
theorem Ju (rows:List Rw) (a:Option Addr) (c:Nat) (w0:World) (hs:Lits w0.heap a rows.length c rows) (hqb:RuB (oH (rows.map (·.1)))) :
  Calls Tryz.prog 15 #[.slice a rows.length c] w0 λe w'=>∃ a c,e= .returned (.slice a (bX (oH (rows.map (·.1)))).length c)/\Hp No w0 w' [cQ 9 eS a (bX (oH (rows.map (·.1)))).length c (bX (oH (rows.map (·.1))))]:=by
 refine enter Tryz.func15 rfl 6 Tryz.ntmps15 rfl<|sZ rfl<|sj λ_ B=>qt mv<|cl T.cf39 (BK a rows.length c _) rfl λ_ _ ⟨er,C⟩=>⟨_,er,?_⟩;have A:=(Hp.start No w0).ext C;refine cl T.cf38 (Kl (⟨MJ,[],rows,none,0,a,c⟩:Rx) _ ⟨⟨by simp [flat],none,0,rfl,Nat.le_refl _,by decide,.inl rfl⟩,hs.ext A.x⟩ hqb) rfl λ_ _ ⟨a6,D,er,E⟩=>⟨_,er,?_⟩;have G:=A.app' E;exact qt asg<|nl<|B<|ret<|leave1 (v:=.slice a6 ((bX (oH (rows.map (·.1)))).length) D) rfl rfl<|⟨_,_,rfl,(G.pick [0] (by decide))⟩
theorem OG {z:Rx} (h:RuB z.r) {j:Nat} (hj:j<z.rows.length):(el z.rows j).1.args.length<=1048578:=by
 have:=(h.2.2.2.2 _ (List.mem_map.2 ⟨_,ak hj,rfl⟩)).2.1;omega
def NoBd (z:Rx) (s:ByteArray) (j:Nat):Prop:=∀ q,q<j->¬ ((el z.rows q).1.kind=1/\∃ k,k<(el z.rows q).1.args.length/\(el (el z.rows q).1.args k).1=true/\(el (el z.rows q).1.args k).2=s)
def NoArg (z:Rx) (s:ByteArray) (j k:Nat):Prop:=∀ q,q<k->¬ ((el (el z.rows j).1.args q).1=true/\(el (el z.rows j).1.args q).2=s)
theorem NoArg.next {z:Rx} {s:ByteArray} {j k:Nat} (h:NoArg z s j k) (hn:(el (el z.rows j).1.args k).1=true->(el (el z.rows j).1.args k).2=s->False):NoArg z s j (k+1):=λq hq=>(Nat.lt_or_ge q k).elim (h q) λh2=>by
 rw [show q=k by omega];exact λh3=>hn h3.1 h3.2
theorem NoArg.done {z:Rx} {s:ByteArray} {j k:Nat} (h:NoArg z s j k) (hk:¬ k<(el z.rows j).1.args.length):¬ ∃ k,k<(el z.rows j).1.args.length/\(el (el z.rows j).1.args k).1=true/\(el (el z.rows j).1.args k).2=s:=λ⟨q,h1,h2⟩=>h q (by omega) h2
theorem NoBd.next {z:Rx} {s:ByteArray} {j:Nat} (h:NoBd z s j) (hn:(el z.rows j).1.kind=1->¬ ∃ k,k<(el z.rows j).1.args.length/\(el (el z.rows j).1.args k).1=true/\(el (el z.rows j).1.args k).2=s):NoBd z s (j+1):=λq hq=>(Nat.lt_or_ge q j).elim (h q) λh2=>by
 rw [show q=j by omega];exact λh3=>hn h3.1 h3.2
theorem NoBd.none {z:Rx} {s:ByteArray} {j:Nat} (h:NoBd z s j) (hj:¬ j<z.rows.length):¬ lW z s:=λ⟨q,h1,h2⟩=>h q (by omega) h2
theorem JF (z:Rx) (w0:World) (hz:RuM w0.heap z) (hb:RuB z.r) (hk:∀ j,j<z.rows.length->(el z.rows j).1.kind=1\/(el z.rows j).1.kind=2\/(el z.rows j).1.kind=3) :
  Calls Tryz.prog 98 #[.agg (eRu.enc z).toArray] w0 λe w'=>∃ a c,e= .returned (.slice a (jA z z.rows.length).length c)/\Hp No w0 w' [cQ 35 eT a (jA z z.rows.length).length c (jA z z.rows.length)]:=by
 have hcap:=hz.1.cap;have hcap2:=hz.2.1.cap;have hrb:=hb;have hhl:z.ha.length<=1048576:=hb.2.1;refine enter Tryz.func98 rfl 49 Tryz.ntmps98 rfl<|sj λ_ L=>st_e<|Ebx (v:=.agg (eRu.enc z).toArray) (Hp.start No w0) rfl λD _ M _=>qt asg<|nl<|L<|sj λ_ N=>st_e<|Ebs (cs:=[]) (e:=35) M (λ_=>by kernel_rfl) λE _ C _=>qR 3 (.b C 1 1 rfl .z) rfl rfl<|st_e<|EapQ (C.noneQ 35 eT (some ⟨E,0,none⟩)) 0 T.sl30 rfl rfl rfl (hz.1.e (C.noneQ 35 eT (some ⟨E,0,none⟩))) (by omega) rfl rfl λa13 O _ R=>qt asg<|nl<|N<|seqJ λ_ U _ _=>sZ rfl<|blockJ λ_ _ _ _ V=>ay (α:=Nat × (List Tm) × (Option Addr) × Nat × Nat) (λx=>[(1,.pointer (some ⟨D,0,none⟩)),(3,.slice x.2.2.1 x.2.2.2.2 x.2.2.2.1),(4,vN x.1)]) (λx W=>Hp No w0 W [cB D 60 (eRu.enc z),cQ 35 eT x.2.2.1 x.2.2.2.2 x.2.2.2.1 x.2.1]/\x.1<=z.rows.length/\x.2.2.2.2=x.2.1.length/\x.2.1=jA z x.1) (λx=>z.rows.length-x.1) (0,([]++z.ha),a13,O,(0+z.ha.length)) ⟨rfl,rfl,rfl,trivial⟩ ?_ ?_
 .refine ⟨(R.pick [2,0] (by decide)),?_⟩;(try dsimp only);exact ⟨Nat.zero_le _,by simp,rfl⟩
 .rintro ka ⟨j,ts,aq,cq,m⟩ la ⟨A,⟨hj,hm,hts⟩⟩;(try dsimp only at hj hm hts);intro ma G na X;dsimp only at A ⊢;have htl:=Mt hrb hj;rw [← hts] at htl;have har:j<z.rows.length->(el z.rows j).1.args.length<=1048578:=λh=>OG hrb h;refine seqJ λ_ Y _ Z=>sL (.b A 0 2 rfl .z) rfl rfl<|cnd (p:=j<z.rows.length) rfl (λaa=>?_) (λaa=>?_)
  .refine skip<|Y<|seqJ λ_ H _ _=>blockJ λ_ I _ _ _=>sL (.b A 0 2 rfl (.f (hz.2.1.e A) 0 (i:=j) (by omega) rfl (.i .z))) rfl rfl<|cnd (p:=((el z.rows j).1.kind)=3) rfl (λba=>?_) (λba=>?_)
   .refine rgS [13,14] (by kernel_rfl) λ_ ca J=>?_;have B:=A.ext ca;refine dW 13 (.b B 0 2 rfl (.x ((hz.2.1.e B).addr (by omega)) (by omega) (.l (((hz.2.1.e B).cell (i:=j) (by omega)).sub 3 [vB ((el z.rows j).1.left.1=true),.string ((el z.rows j).1.left.2)] (aN rfl)) (.b B 0 2 rfl (.x ((hz.2.1.e B).addr (by omega)) (by omega) (.l (((hz.2.1.e B).cell (i:=j) (by omega)).sub 5 [vB ((el z.rows j).1.right.1=true),.string ((el z.rows j).1.right.2)] (aN rfl)) .z)))))) rfl rfl<|d_e (by decide)<|d_e' rfl rfl<|Ebs (cs:=[vB ((el z.rows j).1.left.1=true),.string ((el z.rows j).1.left.2),vB ((el z.rows j).1.right.1=true),.string ((el z.rows j).1.right.2)]) (e:=35) B (λ_=>by kernel_rfl) λ_ _ K da=>?_;have ea:=J.trans (da.mono J.size);refine ⟨λ_=>ea,?_⟩;refine d_e (by decide)<|d_e' rfl rfl<|EapQ (K.toQ eT 0 [(el z.rows j).1.left,(el z.rows j).1.right] rfl rfl (Nat.le_of_ble_eq_true rfl)) 2 T.sl30 rfl rfl rfl ((K.toQ eT 0 [(el z.rows j).1.left,(el z.rows j).1.right] rfl rfl (Nat.le_of_ble_eq_true rfl)).srQ 0 rfl) (by omega) rfl rfl λa60 fa _ ga=>⟨bv (by kernel_rfl),?_⟩;refine d_q rfl rfl (λ_=>asg)<|d_done<|I<|H<|rL (.a1 (by omega) .z) rfl rfl<|G _ ((j+1),(ts++[(el z.rows j).1.left,(el z.rows j).1.right]),a60,fa,(m+2)) _ ⟨rfl,rfl,rfl,trivial⟩ ⟨(ga.pick [1,2] (by decide)),?_⟩ ?_
    ·(try dsimp only);exact ⟨by omega,by rw [List.length_append,hm] <;> rfl,by first | rw [Nj (by omega),← hts] | rw [Ms (by have:=hk j ‹_›;omega),← hts]⟩
    ·(try dsimp only);omega
   .refine region<|qR 8 (.b A 0 2 rfl (.f (hz.2.1.e A) 2 (i:=j) (by omega) rfl .z)) rfl rfl<|st_e<|EapQ A 1 T.sl30 rfl rfl rfl ((hz.2.2 j ‹_›).e A) (by omega) rfl rfl λa64 ia _ ja=>qt asg<|nl<|I<|H<|rL (.a1 (by omega) .z) rfl rfl<|G _ ((j+1),(ts++(el z.rows j).1.args),a64,ia,(m+(el z.rows j).1.args.length)) _ ⟨rfl,rfl,rfl,trivial⟩ ⟨(ja.pick [0,1] (by decide)),?_⟩ ?_
    ·(try dsimp only);exact ⟨by omega,by rw [List.length_append,hm] <;> rfl,by first | rw [Nj (by omega),← hts] | rw [Ms (by have:=hk j ‹_›;omega),← hts]⟩
    ·(try dsimp only);omega
  .refine exit<|Z<|X _ _ _<|V<|U<|sZ rfl<|ret<|leave1 (v:=.slice aq m cq) rfl rfl<|?_;have e:ts=jA z z.rows.length:=by rw [hts,show j=z.rows.length by omega]
   subst hm;subst e;exact ⟨_,_,rfl,(A.pick [1] (by decide))⟩
theorem Io (z:Rx) (s:ByteArray) (w0:World) (hz:RuM w0.heap z) :
  Calls Tryz.prog 99 #[.agg (eRu.enc z).toArray,.string s] w0 λe w'=>e= .returned (vB (s ∈ dx z.r))/\Ext w0 w':=by
 have hcap2:=hz.2.1.cap;refine enter Tryz.func99 rfl 54 Tryz.ntmps99 rfl<|sj λ_ X=>st_e<|Ebx (v:=.agg (eRu.enc z).toArray) (Hp.start No w0) rfl λE _ Y _=>qt asg<|nl<|X<|seqJ λ_ Z aa _=>sZ rfl<|blockJ λ_ _ ba _ ca=>ay (α:=Nat) (λx=>[(1,.string s),(2,.pointer (some ⟨E,0,none⟩)),(5,vN x)]) (λx da=>Hp No w0 da [cB E 60 (eRu.enc z)]/\x<=z.rows.length/\NoBd z s x) (λx=>z.rows.length-x) (0) ⟨rfl,rfl,rfl,trivial⟩ ?_ ?_
 .refine ⟨(Y.pick [0] (by decide)),?_⟩;(try dsimp only);exact ⟨Nat.zero_le _,λq h=>absurd h (Nat.not_lt_zero _)⟩
 .rintro xa j ya ⟨G,⟨hj,hq⟩⟩;(try dsimp only at hj hq);intro za I ea fa;refine seqJ λ_ ga _ ha=>sL (.b G 0 2 rfl .z) rfl rfl<|cnd (p:=j<z.rows.length) rfl (λia=>?_) (λia=>?_)
  .refine skip<|ga<|seqJ λ_ J ja _=>blockJ λ_ K ka _ _=>sZ rfl<|blockJ λ_ _ la _ L=>ay (α:=Nat) (λx=>[(1,.string s),(2,.pointer (some ⟨E,0,none⟩)),(5,vN j),(6,vN x)]) (λx ma=>Hp No w0 ma [cB E 60 (eRu.enc z)]/\NoArg z s j x) (λx=>(el z.rows j).1.args.length-x) (0) ⟨rfl,rfl,rfl,rfl,trivial⟩ ?_ ?_
   .refine ⟨(G.pick [0] (by decide)),?_⟩;(try dsimp only);exact λq h=>absurd h (Nat.not_lt_zero _)
   .rintro Aa k Ba ⟨A,B⟩;(try dsimp only at B);intro Ca M na N;have hcap3:=(hz.2.2 j ‹_›).cap;refine seqJ λ_ oa _ O=>sj λ_ R=>qR 7 (.b A 0 2 rfl (.f (hz.2.1.e A) 0 (i:=j) (by omega) rfl (.i .z))) rfl rfl<|st_if (p:=((el z.rows j).1.kind)=1) (ai rfl) (λpa=>?_) (λpa=>?_)
    .refine qR 11 (.b A 0 2 rfl (.f (hz.2.1.e A) 2 (i:=j) (by omega) rfl .z)) rfl rfl<|nl<|R<|cnd (p:=k<((el z.rows j).1.args.length)) rfl (λqa=>?_) (λqa=>?_)
     .refine skip<|oa<|seqJ λ_ U ra _=>blockJ λ_ V sa _ _=>sj λ_ ta=>qR 10 (.b A 0 2 rfl (.f (hz.2.1.e A) 2 (i:=j) (by omega) rfl (.e ((hz.2.2 j ‹_›).e A) (i:=k) (by omega) .z))) rfl rfl<|st_e<|Eal A T.zv35 λ_ _ ua _=>st_s<|Est (v:=.agg #[vB ((el ((el z.rows j).1.args) k).1=true),.string ((el ((el z.rows j).1.args) k).2)]) ua 0 T.sz35 rfl rfl rfl rfl rfl rfl λ_ C=>nl<|ta<|sj λ_ W=>qR 2 (.b C 0 0 rfl .z) rfl rfl<|st_if (p:=(el ((el z.rows j).1.args) k).1=true) (ai rfl) (λva=>?_) (λva=>?_)
      .refine qR 5 (.b C 0 1 rfl .z) rfl rfl<|nl<|W<|cnd (p:=((el ((el z.rows j).1.args) k).2).toList=s.toList) rfl (λwa=>?_) (λwa=>?_)
       .exact sZ rfl<|ret<|sa<|ra<|na _ _<|la<|ka<|ja<|ea _ _<|ba<|aa<|leave1 (v:=.bool true) rfl rfl<|⟨congrArg Ending.returned (dT (p:=s ∈ dx z.r) ((fC z s).2 ⟨j,by assumption,by omega,k,by assumption,by assumption,aC ‹_›⟩)),C.x⟩
       .refine skip<|V<|U<|rL (.a1 (by omega) .z) rfl rfl<|M _ ((k+1)) _ ⟨rfl,rfl,rfl,rfl,trivial⟩ ⟨(C.pick [1] (by decide)),?_⟩ ?_
        ·(try dsimp only);exact B.next (λD H=>by first | exact absurd D ‹_› | exact absurd (congrArg ByteArray.toList H) ‹_›)
        ·(try dsimp only);omega
      .refine qZ 5 rfl<|nl<|W<|cndF rfl<|skip<|V<|U<|rL (.a1 (by omega) .z) rfl rfl<|M _ ((k+1)) _ ⟨rfl,rfl,rfl,rfl,trivial⟩ ⟨(C.pick [1] (by decide)),?_⟩ ?_
       ·(try dsimp only);exact B.next (λD H=>by first | exact absurd D ‹_› | exact absurd (congrArg ByteArray.toList H) ‹_›)
       ·(try dsimp only);omega
     .refine exit<|O<|N _ _ _<|L<|K<|J<|rL (.a1 (by omega) .z) rfl rfl<|I _ ((j+1)) _ ⟨rfl,rfl,rfl,trivial⟩ ⟨(A.pick [0] (by decide)),?_⟩ ?_
      ·(try dsimp only);exact ⟨by omega,hq.next λD=>B.done (by omega)⟩
      ·(try dsimp only);omega
    .refine qZ 11 rfl<|nl<|R<|cndF rfl<|exit<|O<|N _ _ _<|L<|K<|J<|rL (.a1 (by omega) .z) rfl rfl<|I _ ((j+1)) _ ⟨rfl,rfl,rfl,trivial⟩ ⟨(A.pick [0] (by decide)),?_⟩ ?_
     ·(try dsimp only);exact ⟨by omega,hq.next λD=>B.done (by omega)⟩
     ·(try dsimp only);omega
  .exact exit<|ha<|fa _ _ _<|ca<|Z<|sZ rfl<|ret<|leave1 (v:=.bool false) rfl rfl<|⟨congrArg Ending.returned (dF (p:=s ∈ dx z.r) (λh=>hq.none (by omega) ((fC z s).1 h))),G.x⟩
theorem T.cf98:CF Tryz.prog 98:=λ_ _=>by kernel_rfl
theorem T.cf99:CF Tryz.prog 99:=λ_ _=>by kernel_rfl
theorem T.cf49:CF Tryz.prog 49:=λ_ _=>by kernel_rfl
theorem Ei {o:Option ByteArray} (h:o≠some ByteArray.empty):(o.getD ByteArray.empty).toList=(ByteArray.mk #[]).toList↔o=none:=by
 cases o with
 | none=>exact ⟨λ_=>rfl,λ_=>rfl⟩
 | some x=>exact ⟨λq=>absurd (congrArg some (aC q)) h,λq=>by cases q⟩
theorem yP (z:Rx) (w0:World) (hz:RuM w0.heap z) (hb:RuB z.r) (hk:∀ j,j<z.rows.length->(el z.rows j).1.kind=1\/(el z.rows j).1.kind=2\/(el z.rows j).1.kind=3) :
  Calls Tryz.prog 49 #[.agg (eRu.enc z).toArray] w0 λe w'=>e= .returned (.string ((aQ z.r).getD ByteArray.empty))/\Ext w0 w':=by
 refine enter Tryz.func49 rfl 33 Tryz.ntmps49 rfl<|sj λ_ O=>st_e<|Ebx (v:=.agg (eRu.enc z).toArray) (Hp.start No w0) rfl λG _ B _=>qt asg<|nl<|O<|sj λ_ R=>qR 1 (.d B 0 0 3 rfl .z) rfl rfl<|cl T.cf98 (JF z _ (hz.ext B.x) hb hk) rfl λ_ _ ⟨a9,H,er,U⟩=>⟨_,er,?_⟩;have V:=B.app' U;refine qt asg<|nl<|R<|seqJ λ_ W X _=>sZ rfl<|blockJ λ_ _ Y _ Z=>ay (α:=Nat) (λx=>[(1,.pointer (some ⟨G,0,none⟩)),(3,.slice a9 ((jA z z.rows.length).length) H),(4,vN x)]) (λx aa=>Hp No w0 aa [cB G 60 (eRu.enc z),cQ 35 eT a9 ((jA z z.rows.length).length) H (jA z z.rows.length)]/\x<=(jA z z.rows.length).length/\∀ q,q<x->(el (jA z z.rows.length) q).1=true->lW z (el (jA z z.rows.length) q).2) (λx=>(jA z z.rows.length).length-x) (0) ⟨rfl,rfl,rfl,trivial⟩ ?_ ?_
 .refine ⟨(V.pick [1,0] (by decide)),?_⟩;(try dsimp only);exact ⟨Nat.zero_le _,λq h=>absurd h (Nat.not_lt_zero _)⟩
 .rintro na i oa ⟨I,⟨hi,hq⟩⟩;(try dsimp only at hi hq);intro pa J ba ca;have htb:=Mt hb (j:=z.rows.length) (Nat.le_refl _);refine seqJ λ_ da _ ea=>sZ rfl<|cnd (p:=i<((jA z z.rows.length).length)) rfl (λfa=>?_) (λfa=>?_)
  .refine skip<|da<|seqJ λ_ K ga _=>blockJ λ_ L ha _ _=>seqJ λ_ M _ _=>rgS [12] (by kernel_rfl) λ_ ia C=>?_;have A:=I.ext ia;refine dW 5 (.f (A.srQ 1 rfl) 0 (i:=i) (by omega) rfl .z) rfl rfl<|d_if rfl rfl (p:=(el (jA z z.rows.length) i).1=true) (λ_=>mv) (λja=>?_) (λja=>?_)
   .refine dW 6 (.d A 0 0 3 rfl (.f (A.srQ 1 rfl) 1 (i:=i) (by omega) rfl .z)) rfl rfl<|d_e (by decide)<|d_c' rfl (iW (j:=5) (t:=18) rfl rfl (by decide)) (aT _ T.cf99 rfl rfl) (Io z ((el (jA z z.rows.length) i).2) _ (hz.ext A.x)) λ_ _ ⟨er,N⟩=>⟨_,er,?_⟩;have D:=A.ext N;have ka:=C.trans (N.mono C.size);refine ⟨λ_=>ka,?_⟩;refine d_gq (j:=5) (t:=18) rfl rfl rfl rfl (by decide) (λ_=>aV rfl)<|d_q rfl rfl (λ_=>wj rfl)<|d_done<|M<|cnd (p:=¬ ((el (jA z z.rows.length) i).2 ∈ dx z.r)) rfl (λla=>?_) (λla=>?_)
    .exact sL (.f (D.srQ 1 rfl) 1 (i:=i) (by omega) rfl .z) rfl rfl<|ret<|ha<|ga<|ba _ _<|Y<|X<|leave1 (v:=.string ((el (jA z z.rows.length) i).2)) rfl rfl<|⟨by rw [Hw hq ‹_› ‹_› (λh=>absurd ((fC z _).2 h) ‹_›)];rfl,D.x⟩
    .refine skip<|L<|K<|rL (.a1 (by omega) .z) rfl rfl<|J _ ((i+1)) _ ⟨rfl,rfl,rfl,trivial⟩ ⟨(D.pick [0,1] (by decide)),?_⟩ ?_
     ·(try dsimp only);exact ⟨by omega,λq h=>(Nat.lt_or_ge q i).elim (hq q) λma=>by rw [show q=i by omega];intro E;first | exact absurd E ‹_› | exact (fC z _).1 (Decidable.of_not_not ‹_›)⟩
     ·(try dsimp only);omega
   .refine dW 6 .z rfl rfl<|d_e (by decide)<|wpE_skip (j:=5) (t:=18) rfl rfl rfl (by decide) rfl (λ_=>C)<|dW 2 .z rfl rfl<|d_done<|M<|cndF rfl<|skip<|L<|K<|rL (.a1 (by omega) .z) rfl rfl<|J _ ((i+1)) _ ⟨rfl,rfl,rfl,trivial⟩ ⟨(A.pick [0,1] (by decide)),?_⟩ ?_
    ·(try dsimp only);exact ⟨by omega,λq h=>(Nat.lt_or_ge q i).elim (hq q) λma=>by rw [show q=i by omega];intro E;first | exact absurd E ‹_› | exact (fC z _).1 (Decidable.of_not_not ‹_›)⟩
    ·(try dsimp only);omega
  .exact exit<|ea<|ca _ _ _<|Z<|W<|sZ rfl<|ret<|leave1 (v:=.string (ByteArray.mk #[])) rfl rfl<|⟨by rw [He λq h=>hq q (by omega)];rfl,I.x⟩
theorem KH (z:Rx) (w0:World) (hz:RuM w0.heap z) (hb:RuB z.r) (hk:∀ j,j<z.rows.length->(el z.rows j).1.kind=1\/(el z.rows j).1.kind=2\/(el z.rows j).1.kind=3) (hne:aQ z.r≠some ByteArray.empty) :
  Calls Tryz.prog 93 #[.agg (eRu.enc z).toArray] w0 λe w'=>e= .returned (vB (aQ z.r=none))/\Ext w0 w':=by
 refine enter Tryz.func93 rfl 6 Tryz.ntmps93 rfl<|sj λ_ B=>st_e<|Ebx (v:=.agg (eRu.enc z).toArray) (Hp.start No w0) rfl λ_ _ A _=>qt asg<|nl<|B<|sj λ_ C=>qR 1 (.d A 0 0 3 rfl .z) rfl rfl<|cl T.cf49 (yP z _ (hz.ext A.x) hb hk) rfl λ_ _ ⟨er,D⟩=>⟨_,er,?_⟩;have E:=A.ext D;exact qZ 2 rfl<|nl<|C<|ret<|leave1 (v:=vB (((aQ z.r).getD ByteArray.empty).toList=(ByteArray.mk #[]).toList)) rfl rfl<|⟨congrArg Ending.returned (dq (q:=aQ z.r=none) (Ei hne)),E.x⟩
theorem T.zv152:ZV Tryz.prog 152 (.agg #[vN 0,vN 0,.string ByteArray.empty]):=λ_=>by kernel_rfl
theorem T.sl39:SL Tryz.prog 39 83 3 40 (.agg #[.string ByteArray.empty,vN 0,.string ByteArray.empty]):=aY Tryz.underlying39 (by kernel_rfl) rfl (by decide)
theorem T.cf217:CF Tryz.prog 217:=λ_ _=>by kernel_rfl
theorem T.sz152:SZ Tryz.prog 152 3:=λ_=>by kernel_rfl
theorem T.ag152:AG Tryz.prog 152 3:=λ_=>⟨by kernel_rfl,by kernel_rfl⟩
theorem T.sl40:SL Tryz.prog 40 85 2 24 (.agg #[.string ByteArray.empty,vN 0]):=aY Tryz.underlying40 (by kernel_rfl) rfl (by decide)
theorem T.sl41:SL Tryz.prog 41 60 3 64 (.agg #[.string ByteArray.empty,.slice none 0 0,.slice none 0 0]):=aY Tryz.underlying41 (by kernel_rfl) rfl (by decide)
theorem vO (s:ByteArray) (n:Int) (w0:World) (hs:s.size<=9223372036854775807) :
  Calls Tryz.prog 217 #[.string s,.int .i64 n] w0 λe w'=>e= .returned (vB (zH s n))/\w0=w':=by
 refine enter Tryz.func217 rfl 15 Tryz.ntmps217 rfl<|sZ rfl<|sj λ_ A=>qt mv<|cl T.cf163 (mX s _ hs) rfl λ_ _ ⟨er,rfl⟩=>⟨_,er,?_⟩;refine st_if (p:=l9 s) (ai rfl) (λD=>?_) (λD=>?_)
 .refine qR 3 (.i .z) rfl rfl<|st_if (p:=0<=n) (ai rfl) (λE=>?_) (λE=>?_)
  .exact qR 4 (.i .z) rfl rfl<|nl<|A<|ret<|leave1 (v:=vB (n<=16)) rfl rfl<|⟨congrArg Ending.returned (dq (q:=zH s n) ⟨λh=>⟨(bK s).2 ‹_›,by omega,by omega⟩,λh=>by have B:=h.2.1;have C:=h.2.2;omega⟩),rfl⟩
  .exact qZ 4 rfl<|nl<|A<|ret<|leave1 (v:=.bool false) rfl rfl<|⟨congrArg Ending.returned (dF (p:=zH s n) (λh=>by first | exact absurd ((bK s).1 h.1) ‹_› | (have B:=h.2.1;have C:=h.2.2;omega))),rfl⟩
 .exact qZ 8 rfl<|nl<|A<|ret<|leave1 (v:=.bool false) rfl rfl<|⟨congrArg Ending.returned (dF (p:=zH s n) (λh=>by first | exact absurd ((bK s).1 h.1) ‹_› | (have B:=h.2.1;have C:=h.2.2;omega))),rfl⟩
theorem EN (z:Rx) (w0:World) (hz:RuM w0.heap z) (hb:RuB z.r) :
  Calls Tryz.prog 53 #[.agg (eRu.enc z).toArray] w0 λe w'=>e= .returned (vB (pT z.r))/\Ext w0 w':=by
 have hcap2:=hz.2.1.cap;refine enter Tryz.func53 rfl 28 Tryz.ntmps53 rfl<|sj λ_ J=>st_e<|Ebx (v:=.agg (eRu.enc z).toArray) (Hp.start No w0) rfl λD _ C _=>qt asg<|nl<|J<|seqJ λ_ K E _=>sj λ_ G=>qR 2 (.d C 0 0 2 rfl .z) rfl rfl<|cl T.cf101 (qO z.hp z.ad z.c z.ha _ (hz.1.ext C.x) (by have:=hb.1;have e:z.r.hp.size=z.hp.size:=rfl;omega) (λi hi=>by have:=hb.2.2.1 _ (ak (xs:=z.ha) hi);omega)) rfl λ_ _ ⟨ra,er,hra,L⟩=>⟨_,er,?_⟩;have B:=C.ext L;refine qt (d9 rfl)<|st_if (p:=¬ (ra=true)) (ai rfl) (λM=>?_) (λM=>?_)
 .exact qZ 5 rfl<|nl<|G<|cndT rfl<|sZ rfl<|ret<|E<|leave1 (v:=.bool false) rfl rfl<|⟨congrArg Ending.returned (dF (p:=pT z.r) (λh=>by have h:=(gX z).1 h;first | exact absurd (hra.2 h.1) ‹_› | exact absurd (hrl.2 (h.2.2 _ (ak (xs:=z.rows) (i:=i) ‹_›))) ‹_› | (have:=h.2.1;omega))),B.x⟩
 .refine qR 5 (.b B 0 2 rfl .z) rfl rfl<|nl<|G<|cnd (p:=256<z.rows.length) rfl (λN=>?_) (λN=>?_)
  .exact sZ rfl<|ret<|E<|leave1 (v:=.bool false) rfl rfl<|⟨congrArg Ending.returned (dF (p:=pT z.r) (λh=>by have h:=(gX z).1 h;first | exact absurd (hra.2 h.1) ‹_› | exact absurd (hrl.2 (h.2.2 _ (ak (xs:=z.rows) (i:=i) ‹_›))) ‹_› | (have:=h.2.1;omega))),B.x⟩
  .refine skip<|K<|seqJ λ_ O R _=>sZ rfl<|blockJ λ_ _ U _ V=>ay (α:=Nat) (λx=>[(1,.pointer (some ⟨D,0,none⟩)),(3,vN x)]) (λx W=>Hp No w0 W [cB D 60 (eRu.enc z)]/\x<=z.rows.length/\∀ q,q<x->bm (el z.rows q).1) (λx=>z.rows.length-x) (0) ⟨rfl,rfl,trivial⟩ ?_ ?_
   .refine ⟨(B.pick [0] (by decide)),?_⟩;(try dsimp only);exact ⟨Nat.zero_le _,λq h=>absurd h (Nat.not_lt_zero _)⟩
   .rintro ka i la ⟨A,⟨hi,hq⟩⟩;(try dsimp only at hi hq);intro ma X Y Z;refine seqJ λ_ aa _ ba=>sL (.b A 0 2 rfl .z) rfl rfl<|cnd (p:=i<z.rows.length) rfl (λca=>?_) (λca=>?_)
    .refine skip<|aa<|seqJ λ_ da ea _=>blockJ λ_ fa ga _ _=>sj λ_ ia=>qR 5 (.b A 0 2 rfl (.e (hz.2.1.e A) (i:=i) (by omega) .z)) rfl rfl<|cl T.cf74 (oK (el z.rows i) _ ((hz.2.2 i ‹_›).ext A.x) (hb.2.2.2.2 _ (List.mem_map.2 ⟨_,ak (xs:=z.rows) (i:=i) ‹_›,rfl⟩))) rfl λ_ _ ⟨rl,er,hrl,ja⟩=>⟨_,er,?_⟩;have H:=A.ext ja;refine qt (d9 rfl)<|nl<|ia<|cnd (p:=¬ (rl=true)) rfl (λI=>?_) (λI=>?_)
     .exact sZ rfl<|ret<|ga<|ea<|Y _ _<|U<|R<|leave1 (v:=.bool false) rfl rfl<|⟨congrArg Ending.returned (dF (p:=pT z.r) (λh=>by have h:=(gX z).1 h;first | exact absurd (hra.2 h.1) ‹_› | exact absurd (hrl.2 (h.2.2 _ (ak (xs:=z.rows) (i:=i) ‹_›))) ‹_› | (have:=h.2.1;omega))),H.x⟩
     .refine skip<|fa<|da<|rL (.a1 (by omega) .z) rfl rfl<|X _ ((i+1)) _ ⟨rfl,rfl,trivial⟩ ⟨(H.pick [0] (by decide)),?_⟩ ?_
      ·(try dsimp only);exact ⟨by omega,λq h=>(Nat.lt_or_ge q i).elim (hq q) λ_=>(by rw [show q=i by omega];exact hrl.1 (Decidable.of_not_not I))⟩
      ·(try dsimp only);omega
    .exact exit<|ba<|Z _ _ _<|V<|O<|sZ rfl<|ret<|leave1 (v:=.bool true) rfl rfl<|⟨congrArg Ending.returned (dT (p:=pT z.r) ((gX z).2 ⟨hra.1 (Decidable.of_not_not ‹_›),by omega,kH (xs:=z.rows) (P:=λy:Rw=>bm y.1) λj hj=>hq j (by omega)⟩)),A.x⟩
theorem Gg (g:Px) (w0:World) (hx:PxM w0.heap g/\PgB g.p) :
  Calls Tryz.prog 152 #[.agg g.cells.toArray] w0 λe w'=>∃ (k i:Int) (s:ByteArray),e= .returned (.tuple #[.agg #[.int .i64 k,.int .i64 i,.string s],vB (¬ FmP g.p)])/\Ext w0 w':=by
 have hcap1:=hx.1.1.cap;have hcap2:=hx.1.2.1.cap;have hcap3:=hx.1.2.2.1.cap;have hsI:∀ q,q<g.ins.length->(el g.ins q).1.size<=1048576:=λq h=>(hx.2.2.2.2.1 _ (ak (xs:=g.ins) h)).1;have hsT:∀ q,q<g.ins.length->(el g.ins q).2.2.size<=1048576:=λq h=>(hx.2.2.2.2.1 _ (ak (xs:=g.ins) h)).2;have hsO:∀ q,q<g.outs.length->(el g.outs q).1.size<=1048576:=λq h=>hx.2.2.2.2.2.1 _ (ak (xs:=g.outs) h);refine enter Tryz.func152 rfl 80 Tryz.ntmps152 rfl<|sj λ_ da=>st_e<|Ebx (v:=.agg g.cells.toArray) (Hp.start No w0) rfl λB _ ea _=>st_e<|Eal ea T.zv152 λC _ fa _=>qt asg<|nl<|da<|seqJ λ_ ga K _=>sZ rfl<|blockJ λ_ _ L _ ha=>ay (α:=Nat) (λx=>[(1,.pointer (some ⟨B,0,none⟩)),(2,.pointer (some ⟨C,0,none⟩)),(4,vN x)]) (λx ia=>Hp No w0 ia [cB B 43 g.cells,cB C 152 [vN 0,vN 0,.string ByteArray.empty]]/\x<=g.ins.length/\∀ q,q<x->QH (el g.ins q)) (λx=>g.ins.length-x) (0) ⟨rfl,rfl,rfl,trivial⟩ ?_ ?_
 .refine ⟨(fa.pick [1,0] (by decide)),?_⟩;(try dsimp only);exact ⟨Nat.zero_le _,λq h=>absurd h (Nat.not_lt_zero _)⟩
 .rintro ib i jb ⟨H,⟨hi,hqi⟩⟩;(try dsimp only at hi hqi);intro kb ja M ka;refine seqJ λ_ la _ ma=>sL (.b H 0 0 rfl .z) rfl rfl<|cnd (p:=i<g.ins.length) rfl (λna=>?_) (λna=>?_)
  .refine skip<|la<|seqJ λ_ oa N _=>blockJ λ_ pa O _ _=>seqJ λ_ R _ _=>rgS [12,21] (by kernel_rfl) λ_ qa I=>?_;have A:=H.ext qa;refine dW 12 (.b A 0 0 rfl (.f (hx.1.1.e A) 0 (i:=i) (by omega) rfl (.b A 0 0 rfl (.f (hx.1.1.e A) 1 (i:=i) (by omega) rfl .z)))) rfl rfl<|d_e (by decide)<|d_c' rfl rfl (aT _ T.cf217 rfl rfl) (vO ((el g.ins i).1) ((el g.ins i).2.1) _ (by have:=hsI i ‹_›;omega)) λ_ _ ⟨er,rfl⟩=>⟨_,er,?_⟩;refine ⟨λ_=>I,?_⟩;refine d_q rfl rfl (λ_=>aV rfl)<|d_if rfl rfl (p:=¬ (zH ((el g.ins i).1) ((el g.ins i).2.1))) (λ_=>mv) (λra=>?_) (λra=>?_)
   .refine dW 6 .z rfl rfl<|d_e (by decide)<|wpE_skip (j:=14) (t:=28) rfl rfl rfl (by decide) rfl (λ_=>I)<|dW 2 .z rfl rfl<|d_done<|R<|cndT rfl<|sj λ_ sa=>qt mv<|qt (v:=.agg #[vN 1,vN i,.string ByteArray.empty]) (aw (λ_=>by kernel_rfl))<|st_s<|Est (v:=.agg #[vN 1,vN i,.string ByteArray.empty]) A 1 T.sz152 rfl rfl rfl rfl rfl rfl λ_ U=>qt asg<|nl<|sa<|ret<|O<|N<|M _ _<|L<|K<|leaveG (rs:=[.cell 2 152,.tmp 3]) (vs:=[.agg #[vN 1,vN i,.string ByteArray.empty],.bool true]) rfl ⟨eD (cs:=[vN 1,vN i,.string ByteArray.empty]) T.ag152 rfl (U.lds 1 rfl 0 [vN 1,vN i,.string ByteArray.empty] rfl),di rfl,trivial⟩ rfl ?_;exact ⟨_,_,_,congrArg Ending.returned (congrArg Value.tuple (congrArg (λz=>#[_,z]) (dT (p:=¬ FmP g.p) (λh=>by have G:=h.1 _ (ak (xs:=g.ins) (i:=i) (by omega));first | exact absurd G.1 ‹_› | exact absurd G.2 ‹_›)))),U.x⟩
   .refine dW 6 (.b A 0 0 rfl (.f (hx.1.1.e A) 2 (i:=i) (by omega) rfl .z)) rfl rfl<|d_e (by decide)<|d_c' rfl (iW (j:=14) (t:=28) rfl rfl (by decide)) (aT _ T.cf196 rfl rfl) (yX ((el g.ins i).2.2) _ (by have:=hsT i ‹_›;omega)) λ_ _ ⟨er,rfl⟩=>⟨_,er,?_⟩;refine ⟨λ_=>I,?_⟩;refine d_gq (j:=14) (t:=28) rfl rfl rfl rfl (by decide) (λ_=>aV rfl)<|d_q rfl rfl (λ_=>LV rfl)<|d_done<|R<|cnd (p:=¬ (((el g.ins i).2.2).size<=1024)) rfl (λta=>?_) (λta=>?_)
    .refine sj λ_ ua=>qt mv<|qt (v:=.agg #[vN 1,vN i,.string ByteArray.empty]) (aw (λ_=>by kernel_rfl))<|st_s<|Est (v:=.agg #[vN 1,vN i,.string ByteArray.empty]) A 1 T.sz152 rfl rfl rfl rfl rfl rfl λ_ V=>qt asg<|nl<|ua<|ret<|O<|N<|M _ _<|L<|K<|leaveG (rs:=[.cell 2 152,.tmp 3]) (vs:=[.agg #[vN 1,vN i,.string ByteArray.empty],.bool true]) rfl ⟨eD (cs:=[vN 1,vN i,.string ByteArray.empty]) T.ag152 rfl (V.lds 1 rfl 0 [vN 1,vN i,.string ByteArray.empty] rfl),di rfl,trivial⟩ rfl ?_;exact ⟨_,_,_,congrArg Ending.returned (congrArg Value.tuple (congrArg (λz=>#[_,z]) (dT (p:=¬ FmP g.p) (λh=>by have G:=h.1 _ (ak (xs:=g.ins) (i:=i) (by omega));first | exact absurd G.1 ‹_› | exact absurd G.2 ‹_›)))),V.x⟩
    .refine skip<|pa<|oa<|rL (.a1 (by omega) .z) rfl rfl<|ja _ ((i+1)) _ ⟨rfl,rfl,rfl,trivial⟩ ⟨(A.pick [0,1] (by decide)),?_⟩ ?_
     ·(try dsimp only);exact ⟨by omega,λq h=>(Nat.lt_or_ge q i).elim (hqi q) λW=>(by rw [show q=i by omega];exact ⟨Decidable.of_not_not ‹_›,Decidable.of_not_not ‹_›⟩)⟩
     ·(try dsimp only);omega
  .refine exit<|ma<|ka _ _ _<|ha<|ga<|seqJ λ_ va wa _=>sZ rfl<|blockJ λ_ _ xa _ ya=>ay (α:=Nat) (λx=>[(1,.pointer (some ⟨B,0,none⟩)),(2,.pointer (some ⟨C,0,none⟩)),(5,vN x)]) (λx za=>Hp No w0 za [cB B 43 g.cells,cB C 152 [vN 0,vN 0,.string ByteArray.empty]]/\x<=g.outs.length/\∀ q,q<x->R3 (el g.outs q)) (λx=>g.outs.length-x) (0) ⟨rfl,rfl,rfl,trivial⟩ ?_ ?_
   .refine ⟨(H.pick [0,1] (by decide)),?_⟩;(try dsimp only);exact ⟨Nat.zero_le _,λq h=>absurd h (Nat.not_lt_zero _)⟩
   .rintro lb j mb ⟨J,⟨hj,hqj⟩⟩;(try dsimp only at hj hqj);intro nb Aa Ba Ca;refine seqJ λ_ Da _ Ea=>sL (.b J 0 1 rfl .z) rfl rfl<|cnd (p:=j<g.outs.length) rfl (λFa=>?_) (λFa=>?_)
    .refine skip<|Da<|seqJ λ_ Ga Ha _=>blockJ λ_ Ia Ja _ _=>seqJ λ_ Ka _ _=>rgS [12] (by kernel_rfl) λ_ La Ma=>?_;have D:=J.ext La;refine dW 12 (.b D 0 1 rfl (.f (hx.1.2.1.e D) 0 (i:=j) (by omega) rfl (.b D 0 1 rfl (.f (hx.1.2.1.e D) 1 (i:=j) (by omega) rfl .z)))) rfl rfl<|d_e (by decide)<|d_c' rfl rfl (aT _ T.cf217 rfl rfl) (vO ((el g.outs j).1) ((el g.outs j).2) _ (by have:=hsO j ‹_›;omega)) λ_ _ ⟨er,rfl⟩=>⟨_,er,?_⟩;refine ⟨λ_=>Ma,?_⟩;refine d_q rfl rfl (λ_=>aV rfl)<|d_done<|Ka<|cnd (p:=¬ (zH ((el g.outs j).1) ((el g.outs j).2))) rfl (λX=>?_) (λX=>?_)
     .refine sj λ_ Na=>qt mv<|qt (v:=.agg #[vN 2,vN j,.string ByteArray.empty]) (aw (λ_=>by kernel_rfl))<|st_s<|Est (v:=.agg #[vN 2,vN j,.string ByteArray.empty]) D 1 T.sz152 rfl rfl rfl rfl rfl rfl λ_ Y=>qt asg<|nl<|Na<|ret<|Ja<|Ha<|Ba _ _<|xa<|wa<|leaveG (rs:=[.cell 2 152,.tmp 3]) (vs:=[.agg #[vN 2,vN j,.string ByteArray.empty],.bool true]) rfl ⟨eD (cs:=[vN 2,vN j,.string ByteArray.empty]) T.ag152 rfl (Y.lds 1 rfl 0 [vN 2,vN j,.string ByteArray.empty] rfl),di rfl,trivial⟩ rfl ?_;exact ⟨_,_,_,congrArg Ending.returned (congrArg Value.tuple (congrArg (λz=>#[_,z]) (dT (p:=¬ FmP g.p) (λh=>absurd (h.2.1 _ (ak (xs:=g.outs) (i:=j) (by omega))) ‹_›)))),Y.x⟩
     .refine skip<|Ia<|Ga<|rL (.a1 (by omega) .z) rfl rfl<|Aa _ ((j+1)) _ ⟨rfl,rfl,rfl,trivial⟩ ⟨(D.pick [0,1] (by decide)),?_⟩ ?_
      ·(try dsimp only);exact ⟨by omega,λq h=>(Nat.lt_or_ge q j).elim (hqj q) λW=>(by rw [show q=j by omega];exact (Decidable.of_not_not X))⟩
      ·(try dsimp only);omega
    .refine exit<|Ea<|Ca _ _ _<|ya<|va<|seqJ λ_ Oa Pa _=>sZ rfl<|blockJ λ_ _ Qa _ Ra=>ay (α:=Nat) (λx=>[(1,.pointer (some ⟨B,0,none⟩)),(2,.pointer (some ⟨C,0,none⟩)),(6,vN x)]) (λx Sa=>Hp No w0 Sa [cB B 43 g.cells,cB C 152 [vN 0,vN 0,.string ByteArray.empty]]/\x<=g.rules.length/\∀ q,q<x->pT (el g.rules q).r) (λx=>g.rules.length-x) (0) ⟨rfl,rfl,rfl,trivial⟩ ?_ ?_
     .refine ⟨(J.pick [0,1] (by decide)),?_⟩;(try dsimp only);exact ⟨Nat.zero_le _,λq h=>absurd h (Nat.not_lt_zero _)⟩
     .rintro ob k pb ⟨E,⟨hk,hqk⟩⟩;(try dsimp only at hk hqk);intro qb Ta Ua Va;refine seqJ λ_ Wa _ Xa=>sL (.b E 0 2 rfl .z) rfl rfl<|cnd (p:=k<g.rules.length) rfl (λYa=>?_) (λYa=>?_)
      .refine skip<|Wa<|seqJ λ_ Za bb _=>blockJ λ_ cb db _ _=>sj λ_ eb=>qR 5 (.b E 0 2 rfl (.e (hx.1.2.2.1.e E) (i:=k) (by omega) .z)) rfl rfl<|cl T.cf53 (EN (el g.rules k) _ ((hx.1.2.2.2 k ‹_›).ext E.x) (hx.2.rule ‹_›)) rfl λ_ _ ⟨er,fb⟩=>⟨_,er,?_⟩;have Z:=E.ext fb;refine qt (aV rfl)<|nl<|eb<|cnd (p:=¬ (pT (el g.rules k).r)) rfl (λaa=>?_) (λaa=>?_)
       .refine sj λ_ gb=>qt mv<|qt (v:=.agg #[vN 3,vN k,.string ByteArray.empty]) (aw (λ_=>by kernel_rfl))<|st_s<|Est (v:=.agg #[vN 3,vN k,.string ByteArray.empty]) Z 1 T.sz152 rfl rfl rfl rfl rfl rfl λ_ ba=>qt asg<|nl<|gb<|ret<|db<|bb<|Ua _ _<|Qa<|Pa<|leaveG (rs:=[.cell 2 152,.tmp 3]) (vs:=[.agg #[vN 3,vN k,.string ByteArray.empty],.bool true]) rfl ⟨eD (cs:=[vN 3,vN k,.string ByteArray.empty]) T.ag152 rfl (ba.lds 1 rfl 0 [vN 3,vN k,.string ByteArray.empty] rfl),di rfl,trivial⟩ rfl ?_;exact ⟨_,_,_,congrArg Ending.returned (congrArg Value.tuple (congrArg (λz=>#[_,z]) (dT (p:=¬ FmP g.p) (λh=>absurd (h.2.2 _ (List.mem_map.2 ⟨_,ak (xs:=g.rules) (i:=k) (by omega),rfl⟩)) ‹_›)))),ba.x⟩
       .refine skip<|cb<|Za<|rL (.a1 (by omega) .z) rfl rfl<|Ta _ ((k+1)) _ ⟨rfl,rfl,rfl,trivial⟩ ⟨(Z.pick [0,1] (by decide)),?_⟩ ?_
        ·(try dsimp only);exact ⟨by omega,λq h=>(Nat.lt_or_ge q k).elim (hqk q) λW=>(by rw [show q=k by omega];exact (Decidable.of_not_not aa))⟩
        ·(try dsimp only);omega
      .refine exit<|Xa<|Va _ _ _<|Ra<|Oa<|sj λ_ hb=>qt (v:=.agg #[vN 0,vN 0,.string ByteArray.empty]) (aw (λ_=>by kernel_rfl))<|st_s<|Est (v:=.agg #[vN 0,vN 0,.string ByteArray.empty]) E 1 T.sz152 rfl rfl rfl rfl rfl rfl λ_ ca=>qt asg<|nl<|hb<|ret<|leaveG (rs:=[.cell 2 152,.tmp 3]) (vs:=[.agg #[vN 0,vN 0,.string ByteArray.empty],.bool false]) rfl ⟨eD (cs:=[vN 0,vN 0,.string ByteArray.empty]) T.ag152 rfl (ca.lds 1 rfl 0 [vN 0,vN 0,.string ByteArray.empty] rfl),di rfl,trivial⟩ rfl ?_;exact ⟨_,_,_,congrArg Ending.returned (congrArg Value.tuple (congrArg (λz=>#[_,z]) (dF (p:=¬ FmP g.p) (not_not_intro ⟨kH (xs:=g.ins) λq hq=>hqi q (by omega),kH (xs:=g.outs) λq hq=>hqj q (by omega),λr hr=>by obtain ⟨z,hz,rfl⟩:=List.mem_map.1 hr;obtain ⟨q,hq,rfl⟩:=aU hz;exact hqk q (by omega)⟩)))),ca.x⟩
end Go.Proofs.YtljfgmedbjlkaaaGreat
