/- What the proof of the statement leans on (part 12). -/
import Derived.ChangeMaps5
import Derived.ChangeKeys
import Derived.Test.YtckomlgchbkekaaGreatDoorQk

namespace Go.Lw
open Go.ChangeMaps Go.WideShapes
variable {H:Type}{enc:TypeId×Value->H}{P:Program}
theorem vV {α β:Type}{f:α->Option β}{g:β->α->Prop}(hg:∀a b,f a=some b->g b a):∀(l:List α) (m:List β),l.mapM f=some m->∃z:List (α×β),z.map (·.1)=l/\z.map (·.2)=m/\∀p∈z,g p.2 p.1
 | [],m,h=>by simp at h;subst h;exact⟨[],rfl,rfl,fun p hp=>by cases hp⟩
 |a::l,m,h=>by
  rw[List.mapM_cons] at h;simp only[bind,Option.bind_eq_some_iff,pure,Option.some.injEq] at h;obtain⟨b,hb,m',hm',rfl⟩:=h;obtain⟨z,h1,h2,h3⟩:=vV hg l m' hm'
  exact⟨(a,b)::z,by simp[h1],by simp[h2],fun p hp=>by
   rcases List.mem_cons.1 hp with rfl|hp
   · exact hg _ _ hb
   · exact h3 p hp⟩
theorem GY {W:World}{base fuel:Nat}{sp:Nat->Bool}{held:Bool}{t k e:TypeId}{kk kd:IntKind}{cs:List Value}{L:List (Lit×DataW H)}{pl:List MemPlace}
 (ht:P.underlying t=some (.map k e)) (hk:P.underlying k=some (.int kk)) (he:P.underlying e=some (.int kd))
 (h:DataW.trod enc P W base sp held fuel t cs=some (.map L,pl)) :
 ∃b,cs=[.map (some b)]/\∃l:List (Int×Int),eJ (Value.int kk) (Value.int kd) W.heap b l/\(l.map fun p=>((.int kk p.1,.lit (.int kd p.2)):Lit×DataW H)).Perm L:=by
 have h2:=DataW.trod_le (Nat.le_add_right fuel 2) h;cases fuel with
 |zero=>simp[DataW.trod] at h
 |succ n =>
  rw[DataW.trod_step] at h;unfold DataW.trodStep at h;rw[ht] at h;split at h<;>simp_all;rename_i b _;cases hb:W.heap[b]? with
  |none=>simp[hb] at h
  |some o =>
   cases o<;>simp[hb] at h;rename_i es clock;clear h;rw[trod_map_ints ht (keyOf_int hk) he (n+1) b hb] at h2;split at h2
   · simp only[Option.bind_eq_some_iff] at h2;obtain⟨E,hE,h3⟩:=h2;split at h3
     · simp only[Option.some.injEq,Prod.mk.injEq,DataW.map.injEq] at h3
       obtain⟨z,hz1,hz2,hz3⟩:=vV (g:=fun y x=>∃a b:Int,x.key= .int kk a/\x.val= .int kd b/\y=(.int kk a,.lit (.int kd b))) (fun x y hxy=>by
        unfold rd at hxy;simp only[Option.bind_eq_some_iff,Option.map_eq_some_iff] at hxy;obtain⟨key,h1,d,h2,rfl⟩:=hxy;unfold mapKey at h1;rw[hk] at h1;unfold rdv at h2;cases hkey:x.key<;>rw[hkey] at h1<;>simp at h1;cases hval:x.val<;>rw[hval] at h2<;>simp at h2;obtain⟨⟨rfl,_⟩,rfl⟩:=h1;obtain⟨⟨rfl,_⟩,rfl⟩:=h2;exact⟨_,_,rfl,rfl,rfl⟩) _ _ hE
       have hch:∃l:List (Int×Int),z.map (fun p=>(p.1.key,p.1.val))=l.map (fun p=>(Value.int kk p.1,Value.int kd p.2))/\z.map (·.2)=l.map (fun p=>((.int kk p.1,.lit (.int kd p.2)):Lit×DataW H)):=by
        clear hz1 hz2
        induction z with
        |nil=>exact⟨[],rfl,rfl⟩
        |cons p z ih =>
         obtain⟨l,h1,h2⟩:=ih (fun q hq=>hz3 q (List.mem_cons_of_mem _ hq));obtain⟨a,b,e1,e2,e3⟩:=hz3 p List.mem_cons_self;exact⟨(a,b)::l,by simp[h1,e1,e2],by simp[h2,e3]⟩
       obtain⟨l,hl1,hl2⟩:=hch;refine⟨l,⟨es,clock,hb,?_⟩,?_⟩
       · rw[<-hz1,List.map_map];exact hl1
       · rw[<-hl2,hz2,<-h3.1];exact(sorted_perm E).symm
     · cases h3
   · cases h2
theorem HR {α β:Type}[DecidableEq α]{l m:List (α×β)}(hp:l.Perm m) (hd:(m.map (·.1)).Nodup) (k:α):jG k l=jG k m:=by
 have hd':(l.map (·.1)).Nodup:=(hp.map _).nodup_iff.2 hd
 have key:∀(l:List (α×β)),(l.map (·.1)).Nodup->∀v,jG k l=some v↔(k,v)∈l:=by
  intro l
  induction l with
  |nil=>intro _ v;simp[jG]
  |cons p l ih =>
   obtain⟨a,b⟩:=p;intro hn v;simp only[List.map_cons,List.nodup_cons] at hn;rw[jG];split
   · rename_i hka;subst hka;constructor
     · intro h;cases h;exact List.mem_cons_self
     · intro h
       rcases List.mem_cons.1 h with h|h
       · cases h;rfl
       · exact absurd (List.mem_map_of_mem (f:=(·.1)) h) hn.1
   · rename_i hka;rw[ih hn.2 v];constructor
     · exact List.mem_cons_of_mem _
     · intro h
       rcases List.mem_cons.1 h with h|h
       · cases h;exact absurd rfl hka
       · exact h
 cases h1:jG k l with
 |some v=>exact((key m hd v).2 (hp.mem_iff.1 ((key l hd' v).1 h1))).symm
 |none =>
  cases h2:jG k m with
  |none=>rfl
  |some v=>rw[(key l hd' v).2 (hp.mem_iff.2 ((key m hd v).1 h2))] at h1;cases h1
end Go.Lw
