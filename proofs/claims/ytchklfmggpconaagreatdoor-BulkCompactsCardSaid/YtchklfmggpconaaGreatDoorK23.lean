import Derived.Test.YtchklfmggpconaaGreatDoorK21
namespace Go.Proofs.YtchklfmggpconaaGreatDoor
open Go.RowKit
theorem zNe(s:ByteArray)(w:World)(b:Bool)(h:qC s=b) : Calls Tryz.prog 57 #[.string s] w λe w'=>e=.returned (.bool b)/\w=w':=by
 have:=zOi s w;rw[h] at this;exact this
variable {G:GA}{gen:Nat}
def zBO(G:GA)(st:WkS):Prop:=zBA G st/\st.keys.length<=1000 * st.pages.length
def zLE(G:GA):Prop:=∀id p,G.get id=.inl p->p.body.length<=1000
theorem zMh(e:zI):1<=(jT e).length:=by
 unfold jT vH;simp only[uC,zO];omega
theorem zNf{α:Type}{f:α->List UInt8}:∀(l:List α),(∀x,1<=(f x).length)->l.length<=(l.flatMap f).length
 | [],_=>by simp
 | x :: l,h=>by
  have:=zNf l h;have:=h x;rw[wI,uC,uD];omega
theorem zHi{p:yN}{n:zF}(h:jV p=.inl n)(hp:p.body.length<=1000):n.entries.length<=1000:=by
 have hr:=zC2 h;unfold jV at h;split at h
 .split at h
  .rename_i m hm;injection h with h;subst h;obtain⟨h1,h2,h3⟩:=(zHM _ _ _).1 hm;cases hl:m.leaf with
   | true =>
    unfold zZ at h3;rw[if_pos hl] at h3;have:=zNf m.entries zMh;have:=congrArg List.length h3;rw[uC] at this;omega
   | false =>
    have:m.entries=[]:=by
     unfold zM at h1;rw[if_neg (by rw[hl];simp)] at h1;simp only[uK,wX] at h1;exact h1.1.1.1.1.1.1.1
    rw[this];simp
  .cases h
 .cases h
theorem zLF:∀(ids:List Int) (st st1:WkS),zC3 G gen ids st=.inl st1->st1.keys=st.keys/\st.pages.length<=st1.pages.length
 | [],st,st1,h=>by rw[zC3] at h;injection h with h;subst h;exact⟨rfl,uJ _⟩
 | id :: r,st,st1,h=>by
  rw[zC3] at h;split at h
  .cases h
  .rename_i s1 hs;split at h
   .cases h
   .obtain⟨k1,k2⟩:=zLF r s1 st1 h;obtain⟨_,rfl⟩:=zJw hs;refine⟨k1,?_⟩;simp only[uC] at k2;omega
theorem zFm{e:zI}{st st1:WkS}(hi:zBA G st)(h:zAc G gen e st=.inl st1):zBA G st1/\st1.keys=st.keys/\st.pages.length<=st1.pages.length:=by
 unfold zAc at h;split at h
 .injection h with h;subst h;exact⟨hi,rfl,uJ _⟩
 .split at h
  .cases h
  .exact⟨zK4 _ _ _ hi h,zLF _ _ _ h⟩
theorem zI2{a:zAW}:∀(es:List zI) (st st1:WkS),zBA G st->zBq G gen a es st=.inl st1->zBA G st1/\st1.keys.length=st.keys.length+es.length/\st.pages.length<=st1.pages.length
 | [],st,st1,hi,h=>by rw[zBq] at h;injection h with h;subst h;exact⟨hi,rfl,uJ _⟩
 | e :: r,st,st1,hi,h=>by
  rw[zBq] at h;split at h
  .cases h
  .split at h
   .cases h
   .rename_i s1 hs;obtain⟨k1,k2,k3⟩:=zFm (st:={ st with keys:=st.keys++[e.key] }) hi hs;obtain⟨j1,j2,j3⟩:=zI2 r s1 st1 k1 h;refine⟨j1,?_,uM k3 j3⟩;rw[j2,k2];simp only[uC,uD,uE];omega
theorem zR2{st st1:WkS}{id:Int}{p:yN}(hi:zBO G st)(h1:zFC st id=.inl st1)(h2:zAb G gen id=.inl p):zBA G st1/\st1.keys.length+1000<=1000 * st1.pages.length:=by
 refine⟨hi.1.see h1 h2,?_⟩;obtain⟨_,rfl⟩:=zJw h1;have:=hi.2;simp only[uC,uD,uE];omega
theorem zBO.ofSee{st:WkS}(h:zBA G st/\st.keys.length+1000<=1000 * st.pages.length):zBO G st:=⟨h.1,by omega⟩
theorem zOo{n:zF}{a:zAW}{st st1:WkS}(hi:zBA G st/\st.keys.length+1000<=1000 * st.pages.length)(hn:n.entries.length<=1000)(h:zDv G gen n a st=.inl st1):zBO G st1:=by
 have hd:zBA G (zAk a st)/\(zAk a st).keys=st.keys/\(zAk a st).pages=st.pages:=by
  unfold zAk;split
  .exact⟨hi.1,rfl,rfl⟩
  .exact⟨hi.1,rfl,rfl⟩
 unfold zDv at h;split at h
 .cases h
 .obtain⟨k1,k2,k3⟩:=zI2 _ _ _ hd.1 h;rw[hd.2.1] at k2;rw[hd.2.2] at k3;exact⟨k1,by omega⟩
theorem zI3{rec_:zAW->WkS->WkS ⊕ Err}{n:zF}{a:zAW}(hrec:∀b st st1,zBO G st->rec_ b st=.inl st1->zBO G st1):∀(kids:List Int) (i:Nat) (st st1:WkS),zBO G st->zBg rec_ n a kids i st=.inl st1->zBO G st1
 | [],i,st,st1,hi,h=>by rw[zBg] at h;injection h with h;subst h;exact hi
 | k :: r,i,st,st1,hi,h=>by
  rw[zBg] at h;split at h
  .cases h
  .split at h
   .cases h
   .rename_i s1 hs;exact zI3 hrec r (i+1) s1 st1 (hrec _ _ _ hi hs) h
theorem zI4(hG:zLE G):∀(f:Nat) (a:zAW) (st st1:WkS),zBO G st->zAB G gen f a st=.inl st1->zBO G st1
 | 0,a,st,st1,hi,h=>by rw[zAB] at h;cases h
 | f+1,a,st,st1,hi,h=>by
  rw[zAB] at h;split at h
  .cases h
  .rename_i s1 hs;split at h
   .cases h
   .rename_i p hp;have hk:=zR2 hi hs hp;have hb:p.body.length<=1000:=by
     refine hG a.id p ?_;unfold zAb at hp;split at hp
     .cases hp
     .rename_i q hq;split at hp
      .cases hp
      .injection hp with hp;subst hp;exact hq
    split at h
    .cases h
    .rename_i n hn;split at h
     .exact zOo hk (zHi hn hb) h
     .exact zI3 (zI4 hG f) _ _ _ _ (zBO.ofSee hk) h
end Go.Proofs.YtchklfmggpconaaGreatDoor
