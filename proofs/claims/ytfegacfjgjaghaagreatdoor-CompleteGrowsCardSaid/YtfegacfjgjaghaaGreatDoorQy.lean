/- What the proof of the statement leans on (part 25). -/
import Derived.Lib.SlicesCompact
import Derived.Test.YtfegacfjgjaghaaGreatDoorQx

namespace Go.Proofs.YtfegacfjgjaghaaGreatDoor
open Go
section
variable {x s:By}{l:List By}
abbrev ltT (x y:By):Prop:=Op.bytesLess x y=true
theorem lt_irr:∀x:By,Op.bytesLess x x=false
 | []=>rfl
 |a::x=>by simp[Op.bytesLess,lt_irr x,UInt8.lt_irrefl]
theorem lt_trs:∀{x y z:By},ltT x y→ltT y z→ltT x z
 |_,[],_,h,_=>by cases ‹By› <;>simp[ltT,Op.bytesLess] at h
 | [],b::y,[],_,h=>by simp[ltT,Op.bytesLess] at h
 | [],b::y,c::z,_,_=>rfl
 |a::x,b::y,[],_,h=>by simp[ltT,Op.bytesLess] at h
 |a::x,b::y,c::z,h1,h2=>by
  simp only[ltT,Op.bytesLess,Bool.or_eq_true,Bool.and_eq_true,decide_eq_true_eq,beq_iff_eq] at h1 h2 ⊢
  rcases h1 with h1|⟨rfl,h1⟩
  · rcases h2 with h2|⟨rfl,_⟩
    · exact .inl (UInt8.lt_trans h1 h2)
    · exact .inl h1
  · rcases h2 with h2|⟨rfl,h2⟩
    · exact .inl h2
    · exact .inr ⟨rfl,lt_trs h1 h2⟩
theorem lt_tri:∀x y:By,ltT x y∨x=y∨ltT y x
 | [],[]=>.inr (.inl rfl)
 | [],b::y=>.inl rfl
 |a::x,[]=>.inr (.inr rfl)
 |a::x,b::y=>by
  simp only[ltT,Op.bytesLess,Bool.or_eq_true,Bool.and_eq_true,decide_eq_true_eq,beq_iff_eq,List.cons.injEq]
  have h3:a=b∨a<b∨b<a:=by
   rcases Nat.lt_trichotomy a.toNat b.toNat with q|q|q
   · exact .inr (.inl q)
   · exact .inl (UInt8.toNat_inj.1 q)
   · exact .inr (.inr q)
  rcases h3 with rfl|h|h
  · rcases lt_tri x y with h|h|h
    · exact .inl (.inr ⟨rfl,h⟩)
    · exact .inr (.inl ⟨rfl,h⟩)
    · exact .inr (.inr (.inr ⟨rfl,h⟩))
  · exact .inl (.inl h)
  · exact .inr (.inr (.inl h))
theorem lt_iff:∀x y:By,x<y↔ltT x y
 |x,[]=>by simp[ltT];cases x<;>rfl
 | [],b::y=>by simp[ltT,Op.bytesLess]
 |a::x,b::y=>by
  rw[List.cons_lt_cons_iff,lt_iff x y];simp[ltT,Op.bytesLess]
theorem le_iff (x y:By):x≤y↔¬ltT y x:=by rw[←lt_iff];rfl
abbrev leT (x y:By):Prop:=¬ltT y x
theorem le_ne {y:By}(h:leT x y) (hn:x≠y):ltT x y:=by
 rcases lt_tri x y with k|k|k
 · exact k
 · exact absurd k hn
 · exact absurd k h
theorem le_lt {y z:By}(h:leT x y) (h2:ltT y z):ltT x z:=by
 rcases lt_tri x y with k|k|k
 · exact lt_trs k h2
 · rw[k];exact h2
 · exact absurd k h
abbrev Rising (l:List By):Prop:=l.Pairwise ltT
theorem Rising.nodup (h:Rising l):l.Nodup:=h.imp fun {a b} k e=>by subst e;rw[ltT,lt_irr] at k;cases k
theorem rising_eq {m:List By}(hl:Rising l) (hm:Rising m) (h:∀x,x∈l↔x∈m):l=m :=
 List.Perm.eq_of_pairwise (le:=ltT) (fun a b _ _ h1 h2=>by have:=lt_trs h1 h2;rw[ltT,lt_irr] at this;cases this) hl hm ((List.perm_ext_iff_of_nodup hl.nodup hm.nodup).2 h)
theorem compact_up (d:Array By) (hs:∀i j,i≤j→j<d.size→leT d[i]! d[j]!):∀m,m≤d.size→Rising (Lib.compactUpTo d m)∧(∀x,x∈Lib.compactUpTo d m↔∃i,i<m∧d[i]! =x)
 | 0,_=>⟨by simp[Lib.compactUpTo],by simp[Lib.compactUpTo]⟩
 |m+1,hm=>by
  obtain⟨h1,h2⟩:=compact_up d hs m (by omega);rw[Lib.compactUpTo_succ]
  by_cases hk:Lib.keeps d m=true
  · rw[if_pos hk];refine⟨List.pairwise_append.2 ⟨h1,List.pairwise_singleton _ _,fun a ha b hb=>?_⟩,fun x=>?_⟩
    · have hb:=List.mem_singleton.1 hb;subst hb;obtain⟨i,hi,rfl⟩:=(h2 a).1 ha;have hk2:=of_decide_eq_true hk;have hmz:m≠0:=by omega
      have hne:d[m]! ≠d[m-1]! :=hk2.resolve_left hmz;exact le_lt (hs i (m-1) (by omega) (by omega)) (le_ne (hs (m-1) m (by omega) (by omega)) (Ne.symm hne))
    · rw[List.mem_append,h2,List.mem_singleton];constructor
      · rintro(⟨i,hi,e⟩|rfl)
        · exact⟨i,by omega,e⟩
        · exact⟨m,by omega,rfl⟩
      · rintro⟨i,hi,e⟩
        rcases Nat.lt_or_ge i m with q|q
        · exact .inl ⟨i,q,e⟩
        · obtain rfl:i=m:=by omega
          exact .inr e.symm
  · rw[if_neg hk,List.append_nil];refine⟨h1,fun x=>?_⟩;rw[h2];have hk2:¬(m=0∨d[m]! ≠d[m-1]!):=fun q=>hk (decide_eq_true q)
    have hmz:m≠0:=fun q=>hk2 (.inl q)
    have he:d[m]! =d[m-1]! :=Classical.not_not.1 fun q=>hk2 (.inr q)
    constructor
    · rintro⟨i,hi,e⟩;exact⟨i,by omega,e⟩
    · rintro⟨i,hi,e⟩
      rcases Nat.lt_or_ge i m with q|q
      · exact⟨i,q,e⟩
      · obtain rfl:i=m:=by omega
        exact⟨i-1,by omega,by rw[←he];exact e⟩
def sortP (l:List By):List By:=Lib.compact (l.mergeSort fun x y=>decide (x≤y))
theorem sort_spec (l:List By):Rising (sortP l)∧∀x,x∈sortP l↔x∈l:=by
 have hp:(l.mergeSort fun x y=>decide (x≤y)).Perm l:=List.mergeSort_perm l _
 have hw:(l.mergeSort fun x y=>decide (x≤y)).Pairwise leT:=by
  have:=List.pairwise_mergeSort (le:=fun x y:By=>decide (x≤y)) (fun a b c h1 h2=>by
   simp only[decide_eq_true_eq,le_iff] at *;intro q
   rcases lt_tri a b with k|k|k
   · exact h2 (lt_trs q k)
   · exact h2 (k▸q)
   · exact h1 k) (fun a b=>by
   simp only[Bool.or_eq_true,decide_eq_true_eq,le_iff]
   rcases lt_tri a b with k|k|k
   · exact .inl fun q=>by have:=lt_trs k q;rw[ltT,lt_irr] at this;cases this
   · subst k;exact .inl (by rw[ltT,lt_irr];decide)
   · exact .inr fun q=>by have:=lt_trs k q;rw[ltT,lt_irr] at this;cases this) l
  exact this.imp fun {a b} h=>(le_iff a b).1 (of_decide_eq_true h)
 unfold sortP;generalize (l.mergeSort fun x y=>decide (x≤y))=m at hp hw ⊢;have hle:∀x:By,leT x x:=fun x q=>by rw[ltT,lt_irr] at q;cases q
 have hat:∀i,i<m.length→m.toArray[i]! =m[i]! :=fun i hi=>by simp
 have hs:∀i j,i≤j→j<m.toArray.size→leT m.toArray[i]! m.toArray[j]! :=fun i j hij hj=>by
  have hj:j<m.length:=by simpa using hj
  rw[hat i (by omega),hat j hj]
  rcases Nat.lt_or_ge i j with q|q
  · have:=(List.pairwise_iff_getElem.1 hw) i j (by omega) hj q;simpa [List.getElem!_eq_getElem?_getD,show i<m.length by omega,hj] using this
  · obtain rfl:i=j:=by omega
    exact hle _
 obtain⟨h1,h2⟩:=compact_up m.toArray hs m.length (by simp);refine⟨h1,fun x=>?_⟩
 show x∈Lib.compactUpTo m.toArray m.length↔_
 rw[h2,←hp.mem_iff,List.mem_iff_getElem];constructor
 · rintro⟨i,hi,e⟩;exact⟨i,hi,by rw[←e,hat i hi];simp[hi]⟩
 · rintro⟨i,hi,e⟩;exact⟨i,hi,by rw[hat i hi,←e];simp[hi]⟩
def layP:List By→By→List By
 | [],s=>[s]
 |x::l,s=>if Op.bytesLess x s then x::layP l s else if x=s then x::l else s::x::l
theorem lay_mem:∀(l:List By) (s x:By),x∈layP l s↔x∈l∨x=s
 | [],s,x=>by simp[layP]
 |y::l,s,x=>by
  rw[layP];split
  · simp only[List.mem_cons,lay_mem l s x,or_assoc]
  · split
    · rename_i e;subst e;simp only[List.mem_cons];constructor
      · exact .inl
      · rintro(h|h)
        · exact h
        · exact .inl h
    · simp only[List.mem_cons];constructor
      · rintro(h|h|h)
        · exact .inr h
        · exact .inl (.inl h)
        · exact .inl (.inr h)
      · rintro((h|h)|h)
        · exact .inr (.inl h)
        · exact .inr (.inr h)
        · exact .inl h
theorem lay_rising:∀{l:List By}(s:By),Rising l→Rising (layP l s)
 | [],s,_=>by simp[layP]
 |x::l,s,h=>by
  obtain⟨h1,h2⟩:=List.pairwise_cons.1 h;rw[layP];split
  · rename_i k;refine List.pairwise_cons.2 ⟨fun y hy=>?_,lay_rising s h2⟩
    rcases (lay_mem l s y).1 hy with q|rfl
    · exact h1 y q
    · exact k
  · split
    · exact h
    · rename_i k k2;have hs:ltT s x:=le_ne k (Ne.symm k2);refine List.pairwise_cons.2 ⟨fun y hy=>?_,h⟩
      rcases List.mem_cons.1 hy with rfl|q
      · exact hs
      · exact lt_trs hs (h1 y q)
def wordsC:List By:=[[97,110,100],[101,108,115,101],[102,97,108,115,101],[102,117,110],[105,102],[105,110],[108,101,116],[110,111,116],[111,114],[116,114,117,101]]
def wordsD:List By:=[[105,102],[101,108,115,101],[108,101,116],[105,110],[102,117,110],[116,114,117,101],[102,97,108,115,101],[97,110,100],[111,114],[110,111,116]]
def nameT (a n:Int) (t:Int×Int×Int):Bool:=decide ((t.1=3∨t.1=4)∧0≤t.2.1∧t.2.1<a∧a≤t.2.2∧t.2.2≤n)
def preB (p x:By):Bool:=decide (p <+: x)
theorem preB_iff {p:By}:preB p x=true↔p <+: x:=by unfold preB;exact decide_eq_true_iff
def partC (s:By) (i j:Nat):By:=(s.take j).drop i
def listC (p:By) (names:List By):List By:=(sortP (names++wordsC)).filter (preB p)
def ofC (s:By) (l:List (Int×Int×Int)) (a:Int) (names:List By):Int×List By :=
 if a<0∨(s.length:Int)<a then (0,[]) else
 match l.find? (nameT a s.length) with
 |none=>(0,[])
 |some t=>(t.2.1,listC (partC s t.2.1.toNat a.toNat) names)
theorem list_rising (p:By) (names:List By):Rising (listC p names):=(sort_spec _).1.filter _
theorem list_mem (p:By) (names:List By) (x:By):x∈listC p names↔(x∈names∨x∈wordsC)∧preB p x=true:=by
 unfold listC;rw[List.mem_filter,(sort_spec _).2,List.mem_append]
theorem lays_spec (m:List By):∀l:List By,Rising l→Rising (m.foldl layP l)∧∀x,x∈m.foldl layP l↔x∈l∨x∈m:=by
 induction m with
 |nil=>exact fun l h=>⟨h,by simp⟩
 |cons s m ih =>
  intro l h;obtain⟨h1,h2⟩:=ih (layP l s) (lay_rising s h);refine⟨h1,fun x=>?_⟩;rw[List.foldl_cons,h2,lay_mem,List.mem_cons,or_assoc]
theorem words_same (x:By):x∈wordsD↔x∈wordsC:=by
 simp only[wordsC,wordsD,List.mem_cons,List.not_mem_nil,or_false];constructor<;>(intro h;rcases h with h|h|h|h|h|h|h|h|h|h<;>simp[h])
theorem list_doc (p:By) (names:List By):(wordsD.filter (preB p)++names.filter (preB p)).foldl layP []=listC p names:=by
 obtain⟨h1,h2⟩:=lays_spec (wordsD.filter (preB p)++names.filter (preB p)) [] List.Pairwise.nil;refine rising_eq h1 (list_rising p names) fun x=>?_
 rw[h2,list_mem];simp only[List.not_mem_nil,false_or,List.mem_append,List.mem_filter,words_same];constructor
 · rintro(⟨h,q⟩|⟨h,q⟩)
   · exact⟨.inr h,q⟩
   · exact⟨.inl h,q⟩
 · rintro⟨h|h,q⟩
   · exact .inr ⟨h,q⟩
   · exact .inl ⟨h,q⟩
def lcpP:By→By→By
 |a::x,b::y=>if a=b then a::lcpP x y else []
 |_,_=>[]
def comC:List By→By
 | []=>[]
 |x::l=>l.foldl lcpP x
theorem lcp_pre:∀(x y p:By),p <+: lcpP x y↔p <+: x∧p <+: y
 | [],y,p=>by
  simp only[lcpP,List.prefix_nil];constructor
  · rintro rfl;exact⟨rfl,List.nil_prefix⟩
  · exact fun h=>h.1
 |a::x,[],p=>by
  simp only[lcpP,List.prefix_nil];constructor
  · rintro rfl;exact⟨List.nil_prefix,rfl⟩
  · exact fun h=>h.2
 |a::x,b::y,[]=>by simp
 |a::x,b::y,c::p=>by
  rw[lcpP];split
  · rename_i e;subst e;rw[List.cons_prefix_cons,List.cons_prefix_cons,List.cons_prefix_cons,lcp_pre x y p];constructor
    · rintro⟨rfl,h1,h2⟩;exact⟨⟨rfl,h1⟩,rfl,h2⟩
    · rintro⟨⟨rfl,h1⟩,_,h2⟩;exact⟨rfl,h1,h2⟩
  · rename_i e;rw[List.prefix_nil,List.cons_prefix_cons,List.cons_prefix_cons];constructor
    · intro h;cases h
    · rintro⟨⟨rfl,_⟩,rfl,_⟩;exact absurd rfl e
theorem fold_pre (l:List By):∀(x p:By),p <+: l.foldl lcpP x↔p <+: x∧∀y∈l,p <+: y:=by
 induction l with
 |nil=>simp
 |cons z l ih =>
  intro x p;rw[List.foldl_cons,ih,lcp_pre,List.forall_mem_cons,and_assoc]
theorem com_pre (h:l≠[]) (p:By):p <+: comC l↔∀y∈l,p <+: y:=by
 cases l with
 |nil=>exact absurd rfl h
 |cons x l=>rw[comC,fold_pre,List.forall_mem_cons]
def applyC (s:By) (l:List (Int×Int×Int)) (a:Int) (names:List By):By×Int :=
 if (ofC s l a names).2=[] then (s,a)
 else if 16384<s.length+((comC (ofC s l a names).2).drop (a-(ofC s l a names).1).toNat).length then (s,a)
 else (s.take a.toNat++(comC (ofC s l a names).2).drop (a-(ofC s l a names).1).toNat++s.drop a.toNat,a+((comC (ofC s l a names).2).drop (a-(ofC s l a names).1).toNat).length)
theorem of_some {l:List (Int×Int×Int)}{a:Int}{names:List By}(h:(ofC s l a names).2≠[]):0≤(ofC s l a names).1∧(ofC s l a names).1<a∧a≤s.length∧∀x∈(ofC s l a names).2,partC s (ofC s l a names).1.toNat a.toNat <+: x:=by
 unfold ofC at h ⊢;split at h
 · exact absurd rfl h
 · rename_i hb;rw[if_neg hb];split at h
   · exact absurd rfl h
   · rename_i t ht;have htn:nameT a s.length t=true:=List.find?_some ht;have htn:=of_decide_eq_true htn;refine⟨htn.2.1,htn.2.2.1,by omega,fun x hx=>?_⟩;exact preB_iff.1 ((list_mem _ _ _).1 hx).2
theorem part_len {i j:Nat}(hij:i≤j) (hj:j≤s.length):(partC s i j).length=j-i:=by
 unfold partC;rw[List.length_drop,List.length_take];omega
theorem apply_doc {l:List (Int×Int×Int)}{a:Int}{names:List By}(h:(ofC s l a names).2≠[]) :
 ((comC (ofC s l a names).2).length:Int)-(a-(ofC s l a names).1)=((comC (ofC s l a names).2).drop (a-(ofC s l a names).1).toNat).length∧(a-(ofC s l a names).1).toNat≤(comC (ofC s l a names).2).length ∧
 s.take (ofC s l a names).1.toNat++comC (ofC s l a names).2++s.drop a.toNat=s.take a.toNat++(comC (ofC s l a names).2).drop (a-(ofC s l a names).1).toNat++s.drop a.toNat:=by
 obtain⟨h0,h1,h2,h3⟩:=of_some h;generalize (ofC s l a names).1=f at *;generalize (ofC s l a names).2=li at *;have hp:partC s f.toNat a.toNat <+: comC li:=(com_pre h _).2 h3;have hl:=part_len (s:=s) (i:=f.toNat) (j:=a.toNat) (by omega) (by omega);obtain⟨m,hm⟩:=hp;have hcl:(comC li).length=(a.toNat-f.toNat)+m.length:=by rw[←hm,List.length_append,hl]
 have hd:(comC li).drop (a-f).toNat=m:=by
  rw[←hm,show (a-f).toNat=(partC s f.toNat a.toNat).length by rw[hl];omega,List.drop_left]
 rw[hd];refine⟨by omega,by omega,?_⟩
 congr 1
 rw[←hm,←List.append_assoc]
 congr 1
 unfold partC;have e:(s.take a.toNat).take f.toNat=s.take f.toNat:=by rw[List.take_take,Nat.min_eq_left (by omega)]
 rw[←e,List.take_append_drop]
end
end Go.Proofs.YtfegacfjgjaghaaGreatDoor
